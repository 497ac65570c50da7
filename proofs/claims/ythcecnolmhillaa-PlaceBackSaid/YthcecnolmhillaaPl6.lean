/- Chapter 29: place.Of. -/
import Derived.Test.YthcecnolmhillaaPl5
namespace Go.Proofs.Ythcecnolmhillaa
open Go.RowKit Tt
set_option linter.unusedVariables false

def newP (xs : List Int) (header : Int) (ps : List Pl) (i : Nat) : Pl := ((ps.getD i plz).1, xs.getD i 0, (if i = 0 then 0 else upto xs i - header), (ps.getD i plz).2.2.2.1, (ps.getD i plz).2.2.2.2)
def ofB (xs : List Int) (header : Int) (ps : List Pl) : Bool := startsOk xs && decide (ps.length = xs.length) && decide (0 ≤ header) && decide (∀ i, i < xs.length → i = 0 ∨ header ≤ upto xs i)
def ofV (xs : List Int) (header : Int) (ps : List Pl) : List Pl := if ofB xs header ps = true then (List.range xs.length).map (newP xs header ps) else []
theorem ofV_no {xs : List Int} {header : Int} {ps : List Pl} (h : ofB xs header ps = false) : ofV xs header ps = [] := by unfold ofV; rw [h]; rfl
theorem ofB_no1 {xs : List Int} {header : Int} {ps : List Pl} (h : startsOk xs = false) : ofB xs header ps = false := by unfold ofB; rw [h]; rfl
theorem ofB_no2 {xs : List Int} {header : Int} {ps : List Pl} (h : ¬ ps.length = xs.length) : ofB xs header ps = false := by unfold ofB; rw [decide_eq_false h]; simp
theorem ofB_no3 {xs : List Int} {header : Int} {ps : List Pl} (h : ¬ 0 ≤ header) : ofB xs header ps = false := by unfold ofB; rw [decide_eq_false h]; simp
theorem ofB_no4 {xs : List Int} {header : Int} {ps : List Pl} {i : Nat} (hi : i < xs.length) (h0 : i ≠ 0) (h : upto xs i < header) : ofB xs header ps = false := by
  unfold ofB
  rw [decide_eq_false (p := ∀ i, i < xs.length → i = 0 ∨ header ≤ upto xs i) (fun hh => by rcases hh i hi with h1 | h1 <;> omega)]
  simp
theorem ofB_yes {xs : List Int} {header : Int} {ps : List Pl} (h1 : startsOk xs = true) (h2 : ps.length = xs.length) (h3 : 0 ≤ header) (h4 : ∀ i, i < xs.length → i = 0 ∨ header ≤ upto xs i) : ofB xs header ps = true := by
  unfold ofB
  rw [h1, decide_eq_true h2, decide_eq_true h3, decide_eq_true h4]
  rfl
theorem ofV_eq {xs : List Int} {header : Int} {ps qs : List Pl} {n : Nat} (h : ofB xs header ps = true) (hx : xs.length = n) (hq : qs.length = n) (hall : ∀ i, i < n → qs.getD i plz = newP xs header ps i) : ofV xs header ps = qs := by
  unfold ofV
  rw [if_pos h]
  apply List.ext_getElem (by simp [hx, hq])
  intro i h1 h2
  have := hall i (by omega)
  rw [List.getD_eq_getElem?_getD, List.getElem?_eq_getElem h2] at this
  simp at this ⊢
  exact this.symm

theorem getD_set_self {α : Type} {l : List α} {k : Nat} {x d : α} (h : k < l.length) : (l.set k x).getD k d = x := by
  rw [List.getD_eq_getElem?_getD, List.getElem?_set_self h]; rfl
theorem getD_set_ne {α : Type} {l : List α} {k j : Nat} {x d : α} (h : k ≠ j) : (l.set k x).getD j d = l.getD j d := by
  rw [List.getD_eq_getElem?_getD, List.getElem?_set_ne h, ← List.getD_eq_getElem?_getD]
theorem pcs_upd {qs : List Pl} {k : Nat} (hk : k < qs.length) (s t : Int) : ((pcs qs).set (k * 5 + 1) (.int .i64 s)).set (k * 5 + 2) (.int .i64 t) = pcs (qs.set k ((qs.getD k plz).1, s, t, (qs.getD k plz).2.2.2.1, (qs.getD k plz).2.2.2.2)) := by
  rw [pcs_set (p' := ((qs.getD k plz).1, s, (qs.getD k plz).2.2.1, (qs.getD k plz).2.2.2.1, (qs.getD k plz).2.2.2.2)) (by omega) rfl,
    pcs_set (p' := ((qs.getD k plz).1, s, t, (qs.getD k plz).2.2.2.1, (qs.getD k plz).2.2.2.2)) (by omega) (by rw [getD_set_self hk]; rfl), List.set_set]
theorem newP_of {xs : List Int} {header : Int} {ps qs : List Pl} {k n : Nat} {s t : Int} (hl : qs.length = n) (hk : k < n) (hs : s = xs.getD k 0) (ht : t = (if k = 0 then 0 else upto xs k - header))
    (h1 : ∀ i, i < k → qs.getD i plz = newP xs header ps i) (h2 : ∀ i, k ≤ i → qs.getD i plz = ps.getD i plz) :
    ∀ i, i < k + 1 → (qs.set k ((qs.getD k plz).1, s, t, (qs.getD k plz).2.2.2.1, (qs.getD k plz).2.2.2.2)).getD i plz = newP xs header ps i := fun i hi => by
  rcases Nat.lt_or_ge i k with h | h
  · rw [getD_set_ne (by omega)]; exact h1 i h
  · obtain rfl : i = k := by omega
    rw [getD_set_self (by omega), h2 i (Nat.le_refl _), hs, ht]
    rfl
theorem newP_rest {ps qs : List Pl} {k : Nat} {p : Pl} (h2 : ∀ i, k ≤ i → qs.getD i plz = ps.getD i plz) : ∀ i, k + 1 ≤ i → (qs.set k p).getD i plz = ps.getD i plz := fun i hi => by
  rw [getD_set_ne (by omega)]; exact h2 i (by omega)
theorem upto_le {xs : List Int} {header : Int} {k : Nat} (h3 : ∀ i, i < k → i = 0 ∨ header ≤ upto xs i) (h : k = 0 ∨ header ≤ upto xs k) : ∀ i, i < k + 1 → i = 0 ∨ header ≤ upto xs i := fun i hi => by
  rcases Nat.lt_or_ge i k with h4 | h4
  · exact h3 i h4
  · obtain rfl : i = k := by omega
    exact h
theorem setCell_twice (w : World) (g o : Nat) (v v' : Value) : (w.setCell ⟨g, o, none⟩ v).setCell ⟨g, o, none⟩ v' = w.setCell ⟨g, o, none⟩ v' := by
  simp only [World.setCell]
  congr 1
  apply Array.ext_getElem?
  intro i
  simp only [Array.getElem?_modify]
  split
  · cases w.heap[i]? with
    | none => rfl
    | some x => cases x <;> simp
  · rfl
theorem okTo_mono {xs : List Int} {k n : Nat} (h : okTo xs n) (hk : k ≤ n) : okTo xs k := fun i hi => h i (by omega)

set_option maxRecDepth 20000 in
set_option maxHeartbeats 4000000 in
theorem of_any (a : Option Addr) (n c : Nat) (xs : List Int) (header : Int) (a2 : Option Addr) (n2 c2 : Nat) (ps : List Pl) (w : World) (hs : Sl w a n c 1 (ints .i64 xs)) (hp : Sl w a2 n2 c2 5 (pcs ps)) (hl : n ≤ 1000000) (hl2 : n2 ≤ 1000000) (hh : header ≤ 4294967295) :
    Calls Try.prog 8 #[.slice a n c, .int .i64 header, .slice a2 n2 c2] w fun e w' => ∃ a' n' c', e = .returned (.tuple #[.slice a' n' c', .bool (ofB xs header ps)]) ∧ Sl w' a' n' c' 5 (pcs (ofV xs header ps)) ∧ Below w.heap.size w w' := by
  have hxl := hs.ilen
  have hpl := Ps.ilen hp
  have HSt := Lib.hid (starts_any a n c xs w hs hl)
  have Hs := Lib.hid hs
  have Hp := Lib.hid hp
  have Hxl := Lib.hid hxl
  have Hpl := Lib.hid hpl
  clear hs hp hxl hpl
  obtain ⟨r, hr⟩ : ∃ r, ofB xs header ps = r := ⟨_, rfl⟩
  obtain ⟨V, hV⟩ : ∃ V, ofV xs header ps = V := ⟨_, rfl⟩
  obtain ⟨ok, hok⟩ : ∃ ok, startsOk xs = ok := ⟨_, rfl⟩
  obtain ⟨S, hS⟩ : ∃ S, startsV xs = S := ⟨_, rfl⟩
  rw [hr, hV]
  rw [hok, hS] at HSt
  have Hr := Lib.hid hr
  have HV := Lib.hid hV
  have Hok := Lib.hid hok
  have HS := Lib.hid hS
  clear hr hV hok hS
  cases ok
  · have hno := ofB_no1 (header := header) (ps := ps) Hok.out
    obtain rfl : r = false := Hr.out.symm.trans hno
    obtain rfl : V = [] := HV.out.symm.trans (ofV_no hno)
    clear hno
    go_enter Try.func8, Try.ntmps8
    go_wp2_with (go_at_call 6; refine HSt.out.mono ?_; rintro e w1 ⟨a1, n1, c1, rfl, hs1, hb1⟩; have HB1 := Lib.hid hb1; clear hs1 hb1)
    go_ret2
    exact ⟨_, _, _, rfl, Sl.nil _ _, HB1.out⟩
  · by_cases hnn : n2 = n
    · subst hnn
      have f0 : ((n2 : Int) != (n2 : Int)) = false := by simp
      by_cases hh0 : header < 0
      · have d0 : decide (header < 0) = true := decide_eq_true hh0
        have hno := ofB_no3 (xs := xs) (ps := ps) (show ¬ 0 ≤ header by omega)
        obtain rfl : r = false := Hr.out.symm.trans hno
        obtain rfl : V = [] := HV.out.symm.trans (ofV_no hno)
        clear hno
        go_enter Try.func8, Try.ntmps8
        go_wp2_with (go_at_call 6; refine HSt.out.mono ?_; rintro e w1 ⟨a1, n1, c1, rfl, hs1, hb1⟩; have HB1 := Lib.hid hb1; clear hs1 hb1)
        go_ret2
        exact ⟨_, _, _, rfl, Sl.nil _ _, HB1.out⟩
      · have d0 : decide (header < 0) = false := decide_eq_false hh0
        have hS : S = starts xs n2 := by rw [← HS.out]; unfold startsV; rw [if_pos Hok.out, Hxl.out]
        subst hS
        go_enter Try.func8, Try.ntmps8
        go_wp2_with (first
          | (go_at_call 6; refine HSt.out.mono ?_; rintro e w1 ⟨a1, n1, c1, rfl, hs1, hb1⟩; have HB1 := Lib.hid hb1; have S1 := Lib.hid hs1; have hn1 : n1 = n2 + 1 := hs1.ilen.symm.trans (starts_len _ _); subst hn1; clear hs1 hb1)
          | (go_at_call 19; refine (pclone_any _ _ _ ps _ (Hp.out.mono HB1.out) hl).mono ?_; rintro e w2 ⟨a3, c3, rfl, ho2, hb2⟩; have HB2 := Lib.hid (HB1.out.trans (hb2.mono HB1.out.size)); have Hb2 := Lib.hid hb2; have O2 := Lib.hid ho2; clear ho2 hb2))
        go_loopw [34] (fun i wr => ∃ (k : Nat) (qs : List Pl), k ≤ n2 ∧ i = .int .i64 k ∧ Hid (qs.length = n2) ∧ Hid (∀ i, i < k → qs.getD i plz = newP xs header ps i) ∧ Hid (∀ i, k ≤ i → qs.getD i plz = ps.getD i plz) ∧ Hid (∀ i, i < k → i = 0 ∨ header ≤ upto xs i) ∧ Hid (wr.ownsRow w1.heap.size 35 5 (.slice a3 n2 c3) n2 (pcs qs)) ∧ Hid (Below w1.heap.size w1 wr)) (fun i _ => n2 - (intOf i).toNat)
        case atStart => exact ⟨0, ps, by omega, rfl, Hpl, Lib.hid (fun i hi => by omega), Lib.hid (fun i hi => rfl), Lib.hid (fun i hi => by omega), O2, Hb2⟩
        case round =>
          obtain ⟨k, qs, hk, rfl, hql, hq1, hq2, hq3, hO, hb⟩ := hrel
          by_cases hlt : k < n2
          · obtain ⟨g, rfl, hBg, hlg, hfr, hcl⟩ := own_placeN hO.out (i := k) hlt
            have hkl : k < qs.length := by rw [hql.out]; exact hlt
            have e1 := hcl (k * 5 + 1) _ (pcs_get hkl (by omega : 1 < 5))
            have e2 := hcl (k * 5 + 2) _ (pcs_get hkl (by omega : 2 < 5))
            have z1 := hfr (k * 5 + 1)
            have z2 := hfr (k * 5 + 2)
            obtain ⟨b, o, rfl, hbb, hc⟩ := ((Hs.out.mono HB1.out).mono hb.out).at hlt
            have f1 := hc k _ (ints_get (by rw [Hxl.out]; exact hlt))
            obtain ⟨b2, o2, rfl, hb2, hc2⟩ := S1.out.at (i := k) (by omega)
            have hn2 : b2 ≠ g := by omega
            have f2 := late hb.out hb2 (hc2 k _ (ints_get (by rw [starts_len]; omega)))
            rw [starts_get (by omega)] at f2
            have hup := upto_nonneg (k := k) (by rw [Hxl.out]; omega) (okTo_mono (of_decide_eq_true Hok.out) (by rw [Hxl.out]; omega))
            have Hfin := Lib.hid (fun (s t : Int) (W : World) (hW : W.ownsRow w1.heap.size 35 5 (.slice (some ⟨g, 0, none⟩) n2 c3) n2 (((pcs qs).set (k * 5 + 1) (.int .i64 s)).set (k * 5 + 2) (.int .i64 t))) => pcs_upd hkl s t ▸ hW)
            obtain ⟨s, hs⟩ : ∃ s, upto xs k = s := ⟨_, rfl⟩
            rw [hs] at f2 hup
            have hs' := Lib.hid hs
            clear hs
            obtain ⟨u, hu⟩ : ∃ u, xs.getD k 0 = u := ⟨_, rfl⟩
            rw [hu] at f1
            have hu' := Lib.hid hu
            clear hu
            clear hc hcl hfr hc2 hkl
            have hss := setCell_twice wr g (k * 5 + 2)
            have hss2 : ∀ (v0 v v' : Value), ((wr.setCell ⟨g, k * 5 + 1, none⟩ v0).setCell ⟨g, k * 5 + 2, none⟩ v).setCell ⟨g, k * 5 + 2, none⟩ v' = (wr.setCell ⟨g, k * 5 + 1, none⟩ v0).setCell ⟨g, k * 5 + 2, none⟩ v' := fun v0 => setCell_twice _ g (k * 5 + 2)
            by_cases hk0 : k = 0
            · have d1 : decide ((0 : Int) < (k : Int)) = false := by simp; omega
              have d2 : decide (0 < k) = false := by simp; omega
              have hk0' := Lib.hid hk0
              clear hk0
              go_wp2
              go_roundw
              case rel => exact ⟨k + 1, _, by omega, by go_num, Lib.hid (by rw [List.length_set]; exact hql.out), Lib.hid (newP_of hql.out hlt hu'.out.symm (if_pos hk0'.out).symm hq1.out hq2.out), Lib.hid (newP_rest hq2.out), Lib.hid (upto_le hq3.out (.inl hk0'.out)), Lib.hid (Hfin.out _ _ _ (own_setN (own_setN hO.out _ _) _ _)), Lib.hid ((hb.out.setCell (p := ⟨g, _, none⟩) hBg _).setCell (p := ⟨g, _, none⟩) hBg _)⟩
              case measure => simp [intOf]; omega
            · have d1 : decide ((0 : Int) < (k : Int)) = true := by simp; omega
              have d2 : decide (0 < k) = true := by simp; omega
              have hk0' := Lib.hid hk0
              clear hk0
              by_cases hsh : s < header
              · have hno := ofB_no4 (xs := xs) (header := header) (ps := ps) (i := k) (by rw [Hxl.out]; exact hlt) hk0'.out (by rw [hs'.out]; exact hsh)
                obtain rfl : r = false := Hr.out.symm.trans hno
                obtain rfl : V = [] := HV.out.symm.trans (ofV_no hno)
                have d3 : decide (s - header < 0) = true := by simp; omega
                clear hno
                go_wp2
                go_ret2
                exact ⟨_, _, _, rfl, Sl.nil _ _, HB1.out.trans (((hb.out.setCell (p := ⟨g, _, none⟩) hBg _).setCell (p := ⟨g, _, none⟩) hBg _).mono HB1.out.size)⟩
              · have d3 : decide (s - header < 0) = false := by simp; omega
                go_wp2
                go_roundw
                case rel => exact ⟨k + 1, _, by omega, by go_num, Lib.hid (by rw [List.length_set]; exact hql.out), Lib.hid (newP_of hql.out hlt hu'.out.symm (by rw [if_neg hk0'.out, hs'.out]) hq1.out hq2.out), Lib.hid (newP_rest hq2.out), Lib.hid (upto_le hq3.out (.inr (by rw [hs'.out]; omega))), Lib.hid (Hfin.out _ _ _ (own_setN (own_setN hO.out _ _) _ _)), Lib.hid ((hb.out.setCell (p := ⟨g, _, none⟩) hBg _).setCell (p := ⟨g, _, none⟩) hBg _)⟩
                case measure => simp [intOf]; omega
          · obtain rfl : k = n2 := by omega
            have hyes := ofB_yes (xs := xs) (header := header) (ps := ps) Hok.out (Hpl.out.trans Hxl.out.symm) (by omega) (by rw [Hxl.out]; exact hq3.out)
            obtain rfl : r = true := Hr.out.symm.trans hyes
            obtain rfl : V = qs := HV.out.symm.trans (ofV_eq hyes Hxl.out hql.out hq1.out)
            clear hyes
            go_wp2
            go_ret2
            exact ⟨_, _, _, rfl, (Sl.of_own hO.out).1, HB1.out.trans (hb.out.mono HB1.out.size)⟩
    · have f0 : ((n2 : Int) != (n : Int)) = true := by simp; omega
      have hno := ofB_no2 (xs := xs) (header := header) (ps := ps) (by rw [Hxl.out, Hpl.out]; exact hnn)
      obtain rfl : r = false := Hr.out.symm.trans hno
      obtain rfl : V = [] := HV.out.symm.trans (ofV_no hno)
      clear hno
      go_enter Try.func8, Try.ntmps8
      go_wp2_with (go_at_call 6; refine HSt.out.mono ?_; rintro e w1 ⟨a1, n1, c1, rfl, hs1, hb1⟩; have HB1 := Lib.hid hb1; clear hs1 hb1)
      go_ret2
      exact ⟨_, _, _, rfl, Sl.nil _ _, HB1.out⟩
end Go.Proofs.Ythcecnolmhillaa
