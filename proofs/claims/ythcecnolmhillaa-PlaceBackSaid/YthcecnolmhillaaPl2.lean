/- Chapter 29: slices.IndexFunc, ContainsFunc over ints with a function that writes; Starts. -/
import Derived.Test.YthcecnolmhillaaPl1
namespace Go.Proofs.Ythcecnolmhillaa
open Go.RowKit Tt
set_option linter.unusedVariables false

theorem own_set_ty {w : World} {B : Nat} {E T : TypeId} {sz : Nat} {v : Value} {n : Nat} {xs : List Value} (h : w.ownsRow B E sz v n xs) {g : Nat} {cs : Array Value} {fz : Nat × Nat} (hg : w.heap[g]? = some (.cells cs T fz)) (hne : T ≠ E) (i : Nat) (u : Value) : (w.setCell ⟨g, i, none⟩ u).ownsRow B E sz v n xs := by
  obtain ⟨hl, hr⟩ := h
  refine ⟨hl, ?_⟩
  rcases hr with hn | ⟨g', cap, cur, hv, hB, hg', r⟩
  · exact .inl hn
  · refine .inr ⟨g', cap, cur, hv, hB, (Below.heap_setCell w ⟨g, i, none⟩ u g' ?_).trans hg', r⟩
    show g' ≠ g
    rintro rfl
    rw [hg] at hg'
    injection hg' with hg'
    injection hg' with _ h2 _
    exact hne h2
theorem own_block_ne {w : World} {B : Nat} {E T : TypeId} {sz : Nat} {v : Value} {n : Nat} {xs : List Value} (h : w.ownsRow B E sz v n xs) {g : Nat} {cs : Array Value} {fz : Nat × Nat} (hg : w.heap[g]? = some (.cells cs T fz)) (hne : T ≠ E) : some g ≠ v.ownBlock := by
  rcases h.2 with ⟨rfl, _⟩ | ⟨g', cap, cur, rfl, hB, hg', r⟩
  · intro h; cases h
  · intro h
    cases h
    rw [hg] at hg'
    injection hg' with hg'
    injection hg' with _ h2 _
    exact hne h2

set_option maxHeartbeats 1000000 in
/-- slices.IndexFunc: the function may write; I: what holds ahead of the k-th call. -/
theorem indexfn_any (fid : Nat) (hf : fid = 17 ∨ fid = 38) (cap : Value) (a : Option Addr) (n c : Nat) (xs : List Int) (I D : Nat → World → Prop) (p : Nat → Bool) (w : World) (hn : n ≤ 9223372036854775807) (hI : I 0 w)
    (hs : ∀ k W, I k W → Sl W a n c 1 (ints .i64 xs))
    (hc : ∀ k W, k < n → (∀ i, i < k → p i = false) → I k W → Calls Try.prog fid #[.int .i64 (xs.getD k 0), cap] W fun e W' => e = .returned (.bool (p k)) ∧ (p k = false → I (k + 1) W') ∧ (p k = true → D k W')) :
    Calls Try.prog 21 #[.slice a n c, .func (.func fid) #[] #[cap]] w fun e w' => ∃ j, (∀ i, i < j → p i = false) ∧ ((j < n ∧ p j = true ∧ e = .returned (.int .i64 j) ∧ D j w') ∨ (j = n ∧ e = .returned (.int .i64 (-1)) ∧ I n w')) := by
  have Hs := Lib.hid hs
  have Hc := Lib.hid hc
  have HI := Lib.hid hI
  clear hs hc hI
  rcases hf with rfl | rfl
  all_goals
    go_enter Try.func21, Try.ntmps21
    go_wp2
    go_loopw [8] (fun i wr => ∃ k : Nat, k ≤ n ∧ i = .int .i64 k ∧ Hid (∀ i, i < k → p i = false) ∧ Hid (I k wr)) (fun i _ => n - (intOf i).toNat)
    case atStart => exact ⟨0, by omega, rfl, Lib.hid (fun j hj => by omega), HI⟩
    case round =>
      obtain ⟨k, hk, rfl, hall, hI⟩ := hrel
      by_cases hlt : k < n
      · obtain ⟨b, o, rfl, hb, hcl⟩ := (Hs.out k _ hI.out).at hlt
        have f1 := hcl k _ (ints_get (by rw [(Hs.out k _ hI.out).ilen]; exact hlt))
        clear hcl
        have HC := Lib.hid (Hc.out k wr hlt hall.out hI.out)
        obtain ⟨u, hu⟩ : ∃ u, xs.getD k 0 = u := ⟨_, rfl⟩
        rw [hu] at f1 HC
        obtain ⟨r, hr⟩ : ∃ r, p k = r := ⟨_, rfl⟩
        rw [hr] at HC
        have Hr := Lib.hid hr
        clear hu hr
        go_wp2_with fail
        refine HC.out.mono ?_
        rintro e w2 ⟨rfl, h1, h2⟩
        cases r
        · have H1 := Lib.hid (h1 rfl)
          have Hall := Lib.hid (show ∀ i, i < k + 1 → p i = false from fun i hi => by
            rcases Nat.lt_or_ge i k with h | h
            · exact hall.out i h
            · obtain rfl : i = k := by omega
              exact Hr.out)
          clear h1 h2 hall hI f1
          go_wp2
          go_roundw
          case rel => exact ⟨k + 1, by omega, by go_num, Hall, H1⟩
          case measure => simp [intOf]; omega
        · have H2 := Lib.hid (h2 rfl)
          clear h1 h2 hI f1
          go_wp2
          go_ret
          exact ⟨k, hall.out, .inl ⟨hlt, Hr.out, rfl, H2.out⟩⟩
      · obtain rfl : k = n := by omega
        go_wp2
        go_ret
        exact ⟨k, hall.out, .inr ⟨rfl, rfl, hI.out⟩⟩

theorem containsfn_any (fid : Nat) (hf : fid = 17 ∨ fid = 38) (cap : Value) (a : Option Addr) (n c : Nat) (xs : List Int) (I D : Nat → World → Prop) (p : Nat → Bool) (w : World) (hn : n ≤ 9223372036854775807) (hI : I 0 w)
    (hs : ∀ k W, I k W → Sl W a n c 1 (ints .i64 xs))
    (hc : ∀ k W, k < n → (∀ i, i < k → p i = false) → I k W → Calls Try.prog fid #[.int .i64 (xs.getD k 0), cap] W fun e W' => e = .returned (.bool (p k)) ∧ (p k = false → I (k + 1) W') ∧ (p k = true → D k W')) :
    Calls Try.prog 16 #[.slice a n c, .func (.func fid) #[] #[cap]] w fun e w' => ∃ j, (∀ i, i < j → p i = false) ∧ ((j < n ∧ p j = true ∧ e = .returned (.bool true) ∧ D j w') ∨ (j = n ∧ e = .returned (.bool false) ∧ I n w')) := by
  have HX := Lib.hid (indexfn_any fid hf cap a n c xs I D p w hn hI hs hc)
  clear hs hc hI hf
  go_enter Try.func16, Try.ntmps16
  go_wp2_with fail
  refine HX.out.mono ?_
  rintro e w2 ⟨j, hall, h⟩
  rcases h with ⟨h1, h2, rfl, h3⟩ | ⟨h1, rfl, h3⟩
  · have H := Lib.hid h2
    have H3 := Lib.hid h3
    have Hall := Lib.hid hall
    have h0 : (0 : Int) ≤ (j : Int) := by omega
    clear h2 h3 hall
    go_wp2
    go_ret
    exact ⟨j, Hall.out, .inl ⟨h1, H.out, rfl, H3.out⟩⟩
  · have H3 := Lib.hid h3
    have Hall := Lib.hid hall
    clear h3 hall
    go_wp2
    go_ret
    exact ⟨j, Hall.out, .inr ⟨h1, rfl, H3.out⟩⟩
end Go.Proofs.Ythcecnolmhillaa
