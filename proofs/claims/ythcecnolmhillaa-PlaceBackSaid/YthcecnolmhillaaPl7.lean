/- Chapter 29: place.Back. -/
import Derived.Test.YthcecnolmhillaaPl6
namespace Go.Proofs.Ythcecnolmhillaa
open Go.RowKit Tt
set_option linter.unusedVariables false

def zsz (ps : List Pl) : List Int := ps.map (·.2.1)
theorem zsz_len (ps : List Pl) : (zsz ps).length = ps.length := by simp [zsz]
theorem zsz_get {ps : List Pl} {k : Nat} (h : k < ps.length) : (zsz ps).getD k 0 = (ps.getD k plz).2.1 := by
  simp [zsz, List.getD_eq_getElem?_getD, h]
def bOk (ps : List Pl) (header size : Int) (i : Nat) : Prop := (ps.getD i plz).2.2.1 = (if i = 0 then 0 else upto (zsz ps) i - header) ∧ 1 ≤ (ps.getD i plz).2.1 ∧ (ps.getD i plz).2.1 ≤ size - upto (zsz ps) i
instance (ps : List Pl) (header size : Int) (i : Nat) : Decidable (bOk ps header size i) := inferInstanceAs (Decidable (_ ∧ _))
def backB (ps : List Pl) (header size : Int) : Bool := decide (0 < ps.length) && decide (∀ i, i < ps.length → bOk ps header size i) && decide (upto (zsz ps) ps.length = size)
def backV (ps : List Pl) (header size : Int) : List Int := if backB ps header size = true then starts (zsz ps) ps.length else []
theorem backV_no {ps : List Pl} {header size : Int} (h : backB ps header size = false) : backV ps header size = [] := by unfold backV; rw [h]; rfl
theorem backB_no {ps : List Pl} {header size : Int} {i : Nat} (hi : i < ps.length) (h : ¬ bOk ps header size i) : backB ps header size = false := by
  unfold backB
  rw [decide_eq_false (p := ∀ i, i < ps.length → bOk ps header size i) (fun hh => h (hh i hi))]
  simp
theorem backB_no0 {ps : List Pl} {header size : Int} (h : ps.length = 0) : backB ps header size = false := by
  unfold backB
  rw [decide_eq_false (p := 0 < ps.length) (by omega)]
  rfl
theorem backB_no2 {ps : List Pl} {header size : Int} (h : ¬ upto (zsz ps) ps.length = size) : backB ps header size = false := by
  unfold backB
  rw [decide_eq_false h]
  simp
theorem backB_yes {ps : List Pl} {header size : Int} (h0 : 0 < ps.length) (h1 : ∀ i, i < ps.length → bOk ps header size i) (h2 : upto (zsz ps) ps.length = size) : backB ps header size = true := by
  unfold backB
  rw [decide_eq_true h0, decide_eq_true h1, decide_eq_true h2]
  rfl
theorem bOk_upto {ps : List Pl} {header size : Int} (hs : 0 ≤ size) : ∀ {k : Nat}, k ≤ ps.length → (∀ i, i < k → bOk ps header size i) → 0 ≤ upto (zsz ps) k ∧ upto (zsz ps) k ≤ size
  | 0, _, _ => ⟨Int.le_refl _, hs⟩
  | k + 1, hk, h => by
    have h1 := bOk_upto hs (k := k) (by omega) (fun i hi => h i (by omega))
    have h2 := h k (by omega)
    rw [upto_succ (by rw [zsz_len]; omega), zsz_get (by omega)]
    obtain ⟨_, h3, h4⟩ := h2
    omega
theorem bOk_succ {ps : List Pl} {header size : Int} {k : Nat} (h : ∀ i, i < k → bOk ps header size i) (hk : bOk ps header size k) : ∀ i, i < k + 1 → bOk ps header size i := fun i hi => by
  rcases Nat.lt_or_ge i k with h1 | h1
  · exact h i h1
  · obtain rfl : i = k := by omega
    exact hk
theorem wrap_back {A header E : Int} (ha : -9223372036854775808 ≤ A ∧ A ≤ 9223372036854775807) (h0 : 0 ≤ header) (h1 : header ≤ 1099511627776) (e0 : 0 ≤ E) (e1 : E ≤ 1099511627776) : IntKind.i64.wrap (A + header) = E ↔ A = E - header := by
  rw [IntKind.wrap_i64]
  omega
def ats (xs : List Int) (k : Nat) : List Int := (List.range k).map (upto xs)
theorem ats_succ (xs : List Int) (k : Nat) : ats xs (k + 1) = ats xs k ++ [upto xs k] := by
  unfold ats; rw [List.range_succ, List.map_append]; rfl
theorem ats_starts (xs : List Int) (k : Nat) : ats xs k ++ [upto xs k] = starts xs k := by rw [← ats_succ]; rfl

theorem grown_cell {wr W w5 : World} {B : Nat} {E : TypeId} {sz : Nat} {v : Value} {n : Nat} {xs : List Value} (hown : wr.ownsRow B E sz v n xs) (hg : W.grownBy w5 v.ownBlock) {g i : Nat} {u : Value} (hge : wr.heap.size ≤ g) (hlt : g < W.heap.size) (hc : W.cell? ⟨g, i, none⟩ = some u) : w5.cell? ⟨g, i, none⟩ = some u := by
  unfold World.cell? at hc ⊢
  rw [hg.block g hlt (fun e => by have := (hown.lt g e.symm).2; omega)]
  exact hc
theorem cell_new2 (wr : World) (cs : Array Value) (T : TypeId) (q : Obj) {i : Nat} {u : Value} (h : cs[i]? = some u) : ((wr.alloc (.cells cs T)).alloc q).cell? ⟨wr.heap.size, i, none⟩ = some u := by
  unfold World.cell?
  rw [heap_old _ _ (show wr.heap.size < (wr.alloc (.cells cs T)).heap.size by simp), heap_new]
  exact h


set_option maxRecDepth 20000 in
set_option maxHeartbeats 4000000 in
theorem back_any (a : Option Addr) (n c : Nat) (ps : List Pl) (header size : Int) (w : World) (hp : Sl w a n c 5 (pcs ps)) (hl : n ≤ 1000000) (hh0 : 0 ≤ header) (hh1 : header ≤ 1099511627776) (hs0 : 0 ≤ size) (hs1 : size ≤ 1099511627776)
    (hA : ∀ i, i < n → -9223372036854775808 ≤ (ps.getD i plz).2.2.1 ∧ (ps.getD i plz).2.2.1 ≤ 9223372036854775807) :
    Calls Try.prog 12 #[.slice a n c, .int .i64 header, .int .i64 size] w fun e w' => ∃ a' n' c', e = .returned (.tuple #[.slice a' n' c', .bool (backB ps header size)]) ∧ Sl w' a' n' c' 1 (ints .i64 (backV ps header size)) ∧ Below w.heap.size w w' := by
  obtain ⟨i0, hi, hz0, hz1, hz2⟩ := info_parts info3
  have hpl := Ps.ilen hp
  have hp' := Lib.hid hp
  have hpl' := Lib.hid hpl
  have hA' := Lib.hid hA
  clear hp hpl hA
  obtain ⟨r, hr⟩ : ∃ r, backB ps header size = r := ⟨_, rfl⟩
  rw [hr]
  have hr' := Lib.hid hr
  clear hr
  obtain ⟨V, hV⟩ : ∃ V, backV ps header size = V := ⟨_, rfl⟩
  rw [hV]
  have hV' := Lib.hid hV
  clear hV
  go_enter Try.func12, Try.ntmps12
  go_wp2
  go_loopw [8, 9, 15] (fun v ev i wr => ∃ (k : Nat) (a4 : Option Addr) (c4 : Nat) (E : Int), k ≤ n ∧ v = .slice a4 k c4 ∧ ev = .int .i64 E ∧ i = .int .i64 k ∧ Hid (E = upto (zsz ps) k) ∧ Hid (∀ i, i < k → bOk ps header size i) ∧ Hid (wr.ownsRow w.heap.size 3 1 (.slice a4 k c4) k (ints .i64 (ats (zsz ps) k))) ∧ Hid (Below w.heap.size w wr)) (fun _ _ i _ => n - (intOf i).toNat)
  case atStart => exact ⟨0, none, 0, 0, by omega, rfl, rfl, rfl, Lib.hid rfl, Lib.hid (fun i hi => by omega), Lib.hid (own_nil _ _ _ _), Lib.hid (Below.refl _ _)⟩
  case round =>
    obtain ⟨k, a4, c4, E, hk, rfl, rfl, rfl, hE, hall, hown, hb⟩ := hrel
    have hEb := bOk_upto hs0 (k := k) (by rw [hpl'.out]; omega) hall.out
    rw [← hE.out] at hEb
    obtain ⟨hE0, hE1⟩ := hEb
    by_cases hlt : k < n
    · obtain ⟨b, o, rfl, hbb, f1, f2, f3, f4, f5⟩ := Ps.at (hp'.out.mono hb.out) hlt
      have hbk : bOk ps header size k ↔ (ps.getD k plz).2.2.1 = (if k = 0 then 0 else E - header) ∧ 1 ≤ (ps.getD k plz).2.1 ∧ (ps.getD k plz).2.1 ≤ size - E := by rw [hE.out]; exact Iff.rfl
      have hus : upto (zsz ps) (k + 1) = E + (ps.getD k plz).2.1 := by rw [upto_succ (by rw [zsz_len, hpl'.out]; exact hlt), zsz_get (by rw [hpl'.out]; exact hlt), hE.out]
      have hAk := hA'.out k hlt
      obtain ⟨p1, hp1⟩ : ∃ p1, (ps.getD k plz).1 = p1 := ⟨_, rfl⟩
      rw [hp1] at f1
      have hp1' := Lib.hid hp1
      clear hp1
      obtain ⟨Z, hZ⟩ : ∃ Z, (ps.getD k plz).2.1 = Z := ⟨_, rfl⟩
      rw [hZ] at f2 hbk hus
      obtain ⟨A, hAA⟩ : ∃ A, (ps.getD k plz).2.2.1 = A := ⟨_, rfl⟩
      rw [hAA] at f3 hbk hAk
      have hwb : IntKind.i64.wrap (A + header) = E ↔ A = E - header := wrap_back hAk hh0 hh1 hE0 (by omega)
      have hT : ∃ T, (k = 0 → A = T) ∧ (0 < k → IntKind.i64.wrap (A + header) = T) ∧ (bOk ps header size k ↔ T = E ∧ 1 ≤ Z ∧ Z ≤ size - E) := by
        rcases Nat.eq_zero_or_pos k with h0 | h0
        · refine ⟨A, fun _ => rfl, fun h => by omega, ?_⟩
          rw [hbk, if_pos h0]
          have : E = 0 := by rw [hE.out, h0]; rfl
          rw [this]
        · refine ⟨_, fun h => by omega, fun _ => rfl, ?_⟩
          rw [hbk, if_neg (by omega), ← hwb]
      obtain ⟨T, hT0, hT1, hTk⟩ := hT
      have hw1 : IntKind.i64.wrap (size - E) = size - E := by rw [IntKind.wrap_i64]; omega
      have hw2 : Z ≤ size - E → 1 ≤ Z → IntKind.i64.wrap (E + Z) = E + Z := fun h1 h2 => by rw [IntKind.wrap_i64]; omega
      have hus' := Lib.hid hus
      have hTk' := Lib.hid hTk
      have hw2' := Lib.hid hw2
      clear hus hTk hw2
      clear hbk hwb hAk
      have hk0 : (k = 0 ∧ decide ((0 : Int) < (k : Int)) = false ∧ decide (0 < k) = false ∧ T = A) ∨ (0 < k ∧ decide ((0 : Int) < (k : Int)) = true ∧ decide (0 < k) = true ∧ IntKind.i64.wrap (A + header) = T) := by
        rcases Nat.eq_zero_or_pos k with h0 | h0
        · exact .inl ⟨h0, by simp; omega, by simp; omega, (hT0 h0).symm⟩
        · exact .inr ⟨h0, by simp; omega, by simp; omega, hT1 h0⟩
      clear hT0 hT1
      have hgood : T = E ∧ 1 ≤ Z ∧ Z ≤ size - E ∨ (T ≠ E ∨ Z < 1 ∨ size - E < Z) := by omega
      rcases hk0 with ⟨h0, d1, d2, rfl⟩ | ⟨h0, d1, d2, hTw⟩
      all_goals
        have h0' := Lib.hid h0
        clear h0
        rcases hgood with ⟨g1, g2, g3⟩ | hbad
        · have q1 : (T != E) = false := by simp [g1]
          have q2 : decide (Z < 1) = false := by simp; omega
          have q3 : decide (size - E < Z) = false := by simp; omega
          have hw3 := hw2'.out g3 g2
          have hnew := Lib.hid (bOk_succ hall.out (hTk'.out.2 ⟨g1, g2, g3⟩))
          obtain rfl : E = T := g1.symm
          have hZ' := Lib.hid hZ
          have hAA' := Lib.hid hAA
          have hE' := Lib.hid hE
          clear hZ hAA hE
          clear g1 g2 g3
          go_wp2_with (at_builtin; refine wpList_app rfl _ _ 22 rfl w.heap.size 3 i0 _ 1 8 Try.underlying22 hi hz0 hz1 hz2 rfl (by decide) _ k _ rfl (World.ownsRow.alloc (World.ownsRow.alloc hown.out _) _) _ 1 1 [.int .i64 E] rfl (Sl.new' _ 3 1 1 #[.int .i64 E] (0, 0) (by simp) (by omega) rfl) (by simp [Value.oneCell']) (by omega) (by decide) (by have := hb.out.size; simp at this ⊢; omega) ?_; intro a5 c5 w5 ob hb5 hg5; have Ob := Lib.hid ob; have Hb5 := Lib.hid (((hb.out.alloc hb.out.size _).alloc (by have := hb.out.size; simp at this ⊢; omega) _).trans hb5); have pz := grown_cell hown.out hg5 (Nat.le_refl _) (by simp; omega) (cell_new2 wr _ _ _ (i := 1) (u := .int .i64 Z) rfl); clear ob hb5 hg5)
          go_roundw
          case rel => exact ⟨k + 1, a5, c5, E + Z, by omega, rfl, rfl, by go_num, Lib.hid hus'.out.symm, hnew, Lib.hid (by rw [ats_succ, ints_append, ← hE'.out.out]; exact Ob.out), Hb5⟩
          case measure => simp [intOf]; omega
        · have hno := backB_no (ps := ps) (header := header) (size := size) (i := k) (by rw [hpl'.out]; exact hlt) (fun h => by have := hTk'.out.1 h; omega)
          obtain rfl : r = false := hr'.out.symm.trans hno
          obtain rfl : V = [] := hV'.out.symm.trans (backV_no hno)
          clear hno
          have hZ' := Lib.hid hZ
          have hAA' := Lib.hid hAA
          have hE' := Lib.hid hE
          clear hZ hAA hE
          by_cases g1 : T = E
          · have q1 : (T != E) = false := by simp [g1]
            obtain rfl : E = T := g1.symm
            clear g1
            by_cases g2 : Z < 1
            · have q2 : decide (Z < 1) = true := by simp; omega
              clear hbad
              go_wp2
              go_ret2
              exact ⟨_, _, _, rfl, Sl.nil _ _, hb.out.alloc hb.out.size _⟩
            · have q2 : decide (Z < 1) = false := by simp; omega
              have q3 : decide (size - E < Z) = true := by simp; omega
              clear hbad g2
              go_wp2
              go_ret2
              exact ⟨_, _, _, rfl, Sl.nil _ _, hb.out.alloc hb.out.size _⟩
          · have q1 : (T != E) = true := by simp [g1]
            clear hbad g1
            go_wp2
            go_ret2
            exact ⟨_, _, _, rfl, Sl.nil _ _, hb.out.alloc hb.out.size _⟩
    · obtain rfl : k = n := by omega
      by_cases hk0 : k = 0
      · have hno := backB_no0 (ps := ps) (header := header) (size := size) (by rw [hpl'.out]; exact hk0)
        obtain rfl : r = false := hr'.out.symm.trans hno
        obtain rfl : V = [] := hV'.out.symm.trans (backV_no hno)
        have q1 : ((k : Int) == 0) = true := by simp [hk0]
        have q2 : (k == 0) = true := by simp [hk0]
        clear hno
        have hk0' := Lib.hid hk0
        have hE' := Lib.hid hE
        clear hk0 hE
        go_wp2
        go_ret2
        exact ⟨_, _, _, rfl, Sl.nil _ _, hb.out⟩
      · have q1 : ((k : Int) == 0) = false := by simp [hk0]
        have q2 : (k == 0) = false := by simp [hk0]
        by_cases hEs : E = size
        · have q3 : (E != size) = false := by simp [hEs]
          have hyes := backB_yes (ps := ps) (header := header) (size := size) (by rw [hpl'.out]; omega) (by rw [hpl'.out]; exact hall.out) (by rw [hpl'.out, ← hE.out]; exact hEs)
          obtain rfl : r = true := hr'.out.symm.trans hyes
          obtain rfl : V = starts (zsz ps) k := hV'.out.symm.trans (by unfold backV; rw [if_pos hyes, hpl'.out])
          clear hyes
          have hk0' := Lib.hid hk0
          have hE' := Lib.hid hE
          have hEs' := Lib.hid hEs
          clear hk0 hE hEs
          go_wp2_with (at_builtin; refine wpList_app rfl _ _ 22 rfl w.heap.size 3 i0 _ 1 8 Try.underlying22 hi hz0 hz1 hz2 rfl (by decide) _ k _ rfl (World.ownsRow.alloc hown.out _) _ 1 1 [.int .i64 E] rfl (Sl.new' _ 3 1 1 #[.int .i64 E] (0, 0) (by simp) (by omega) rfl) (by simp [Value.oneCell']) (by omega) (by decide) (by have := hb.out.size; simp at this ⊢; omega) ?_; intro a5 c5 w5 ob hb5 hg5; have Ob := Lib.hid ob; have Hb5 := Lib.hid ((hb.out.alloc (by have := hb.out.size; simp at this ⊢; omega) _).trans hb5); skip; clear ob hb5 hg5)
          go_ret2
          exact ⟨_, _, _, rfl, by have := (Sl.of_own Ob.out).1; rw [← ats_starts, ints_append, ← hE'.out.out]; exact this, Hb5.out⟩
        · have q3 : (E != size) = true := by simp [hEs]
          have hno := backB_no2 (ps := ps) (header := header) (size := size) (by rw [hpl'.out, ← hE.out]; exact hEs)
          obtain rfl : r = false := hr'.out.symm.trans hno
          obtain rfl : V = [] := hV'.out.symm.trans (backV_no hno)
          clear hno
          have hk0' := Lib.hid hk0
          have hE' := Lib.hid hE
          have hEs' := Lib.hid hEs
          clear hk0 hE hEs
          go_wp2
          go_ret2
          exact ⟨_, _, _, rfl, Sl.nil _ _, hb.out⟩
end Go.Proofs.Ythcecnolmhillaa
