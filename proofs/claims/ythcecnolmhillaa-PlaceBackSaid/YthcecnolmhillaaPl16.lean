/- Chapter 29: Find's own text. -/
import Derived.Test.YthcecnolmhillaaPl15
import Derived.Test.YthcecnolmhillaaL11
namespace Go.Proofs.Ythcecnolmhillaa
open Go.RowKit Tt
attribute [local go_sem] Oper.semAt_some
set_option linter.unusedVariables false
set_option linter.unusedSimpArgs false

theorem own_slice {w : World} {B : Nat} {E : TypeId} {sz : Nat} {v : Value} {n : Nat} {xs : List Value} (h : w.ownsRow B E sz v n xs) : ∃ a c, v = .slice a n c := by
  rcases h.2 with ⟨rfl, h0⟩ | ⟨g, cap, cur, rfl, _⟩
  · exact ⟨none, 0, by rw [h0]⟩
  · exact ⟨_, _, rfl⟩
theorem one_new' (w : World) (E : TypeId) (v : Value) : ∀ j u, [v][j]? = some u → (w.alloc (.cells #[v] E)).cell? ((⟨w.heap.size, 0, none⟩ : Addr).add j) = some u := by
  intro j u hj
  have hs := (Sl.new w E 1 1 #[v] (0, 0) (by decide) rfl).lies 0 (by decide)
  obtain ⟨b, o, e, _, hc⟩ := hs
  injection e with e
  injection e with e1 e2 e3
  subst e1 e2
  rw [Addr.add_lit]
  exact hc j u hj
/-- one loop's record is set anew -/
theorem FS.put {w : World} {N c : Nat} {a : Option Addr} {l l' : Loop} {k : Nat} {W : World} (h : FS w N c a l k W) : FS w N c a l' k (W.putObj (N + 5) (.loop l')) := by
  obtain ⟨h1, h2, h3, ⟨a', c', h4, h5⟩, h6, h7, h8⟩ := h
  have hp : ∀ k, k ≠ N + 5 → (W.putObj (N + 5) (.loop l')).heap[k]? = W.heap[k]? := fun k hk => World.putObj_heap_other hk
  refine ⟨h1.trans ⟨rfl, rfl, rfl, by simp, fun k hk => hp k (by omega)⟩, (hp _ (by omega)).trans h2, (hp _ (by omega)).trans h3, ⟨a', c', (hp _ (by omega)).trans h4, own_above h5 (fun k hk _ => hp k (by omega))⟩, (hp _ (by omega)).trans h6, (hp _ (by omega)).trans h7, World.putObj_heap_same (Array.getElem?_eq_some_iff.1 h8).1⟩

set_option maxRecDepth 100000 in
set_option maxHeartbeats 4000000 in
theorem find_core (a : Option Addr) (c : Nat) (w : World) (hs : Sl w a 30 c 1 (ints .u8 core30)) :
    Calls Try.prog 14 #[.slice a 30 c] w fun e w' => ∃ a' c', e = .returned (.tuple #[.slice a' 3 c', .int .i64 0]) ∧ Sl w' a' 3 c' 1 (ints .i64 [0, 15, 30]) ∧ Below w.heap.size w w' := by
  obtain ⟨i0, hi, hz0, hz1, hz2⟩ := info_parts info3
  have HI := Lib.hid (fun l => images1_in w w.heap.size c a l rfl hs)
  clear hs
  refine (callsIn_wide (n := 10)).1 ?_
  refine callsIn_of_wp_marks Try.func14 rfl trivial ?_ rfl
  simp only [Try.ntmps14, List.size_toArray, List.length_cons, List.length_nil, Nat.reduceAdd, Nat.reduceSub, Array.replicate_succ, Array.replicate_zero, List.push_toArray, List.append_toArray, List.nil_append, List.cons_append]
  gi_wp2_with (refine ⟨trivial, ?_⟩; gi_at_call 20; refine (callsIn_wide.2 (imagesfn_any _ _ _ _)).mono ?_; rintro e w' ⟨rfl, rfl⟩)
  refine rf_law' rfl (by omega) rfl trivial (enters_of Try.func23 (by kernel_rfl) rfl) ?_
  intro fn rec hfn hrec
  simp only [World.size_alloc, Nat.add_assoc, Nat.reduceAdd]
  refine CallsIn.mono (HI.out (rec .ready none) ?round _ ?init) ?done
  case init =>
    refine ⟨?_, ?_, ?_, ⟨none, 0, ?_, own_nil _ _ _ _⟩, ?_, ?_, ?_⟩
    · exact ((((((Below.refl _ _).alloc (Nat.le_refl _) _).alloc (by simp) _).alloc (by simp <;> omega) _).alloc (by simp <;> omega) _).alloc (by simp <;> omega) _).alloc (by simp <;> omega) _
    · exact (heap_old _ _ (by simp <;> omega)).trans ((heap_old _ _ (by simp <;> omega)).trans ((heap_old _ _ (by simp <;> omega)).trans ((heap_old _ _ (by simp <;> omega)).trans ((heap_old _ _ (by simp)).trans (heap_new _ _)))))
    · exact (heap_old _ _ (by simp <;> omega)).trans ((heap_old _ _ (by simp <;> omega)).trans ((heap_old _ _ (by simp <;> omega)).trans ((heap_old _ _ (by simp)).trans (heap_new' _ _ (by simp)))))
    · exact (heap_old _ _ (by simp <;> omega)).trans ((heap_old _ _ (by simp <;> omega)).trans ((heap_old _ _ (by simp)).trans (heap_new' _ _ (by simp))))
    · exact (heap_old _ _ (by simp <;> omega)).trans ((heap_old _ _ (by simp)).trans (heap_new' _ _ (by simp)))
    · exact (heap_old _ _ (by simp)).trans (heap_new' _ _ (by simp))
    · exact heap_new' _ _ (by simp)
  case round =>
    intro k W hk hF
    obtain ⟨p, hp⟩ : ∃ p, 15 * k = p := ⟨_, rfl⟩
    rw [hp]
    refine rf_round' hfn hrec hF.lb rfl ?_
    gi_wp2
    refine ⟨hF.lb, ?_⟩
    have F2 := hF.put (l' := rec .busy none)
    obtain ⟨Wb, hWb⟩ : ∃ Wb, Wb = W.putObj (w.heap.size + 5) (.loop (rec .busy none)) := ⟨_, rfl⟩
    rw [← hWb] at F2 ⊢
    obtain ⟨k1, k2, k3, ⟨a4, c4, k4, k5⟩, k6, k7, k8⟩ := F2
    have p3 : Wb.cell? ⟨w.heap.size + 2, 0, none⟩ = some (.slice a4 k c4) := k4.cell rfl
    have hbk := beg_succ k
    rw [hp] at hbk
    have hne : ((p : Int) == ((p + 15 : Nat) : Int)) = false := by simp; omega
    have hne2 : (p == p + 15) = false := by simp
    have one := one_new' Wb 3 (.int .i64 (p : Int))
    have k1' := Lib.hid k1
    have k2' := Lib.hid k2
    have k3' := Lib.hid k3
    have k4' := Lib.hid k4
    have k5' := Lib.hid k5
    have k6' := Lib.hid k6
    have k7' := Lib.hid k7
    have k8' := Lib.hid k8
    have hbk' := Lib.hid hbk
    have hp' := Lib.hid hp
    have one' := Lib.hid one
    clear k1 k2 k3 k4 k5 k6 k7 k8 hbk hp one
    clear hWb hF hrec
    have hlt2 := k4'.out.lt
    have hlt5 := (Array.getElem?_eq_some_iff.1 k8'.out).1
    gi_wp2_with (gi_at_builtin; refine wpListIn_append_own _ rfl _ _ 22 rfl (w.heap.size + 6) 3 i0 (.int .i64 0) 1 8 Try.underlying22 hi hz0 hz1 hz2 rfl (by decide) _ k _ rfl (World.ownsRow.alloc k5'.out _) ⟨Wb.heap.size, 0, none⟩ 1 1 [.int .i64 (p : Int)] rfl rfl one'.out (by simp [Value.oneCell']) (by unfold maxLen; omega) (by omega) (by simp only [World.size_alloc]; omega) ?_; intro v' w6 hown hgrow hnil; clear hnil; obtain ⟨a7, c7, rfl⟩ := own_slice hown; have hb6 : Below (w.heap.size + 6) (Wb.alloc (.cells #[.int .i64 (p : Int)] 3)) w6 := below_grown (Below.refl _ _) hgrow (by simp only [World.size_alloc]; omega) (World.ownsRow.alloc k5'.out _); have B16 : Blk w6 (w.heap.size + 2) 22 #[.slice a4 k c4] := (k4'.out.alloc _).mono hb6 (by omega); have HB16 := Lib.hid B16; have Hown := Lib.hid hown; have Hb6 := Lib.hid hb6; have p5 : w6.cell? ⟨w.heap.size + 2, 0, none⟩ = some (.slice a4 k c4) := B16.cell rfl; have p6 : w6.frozen? ⟨w.heap.size + 2, 0, none⟩ = false := B16.frozen 0; clear hown hgrow hb6 B16)
    have hold : ∀ j, j < w.heap.size + 6 → w6.heap[j]? = Wb.heap[j]? := fun j hj => (Hb6.out.block j hj).trans (heap_old _ _ (by omega))
    have hset : ∀ j, j ≠ w.heap.size + 2 → (w6.setCell ⟨w.heap.size + 2, 0, none⟩ (.slice a7 (k + 1) c7)).heap[j]? = w6.heap[j]? := fun j hj => Below.heap_setCell _ _ _ _ hj
    have F7 : FS w w.heap.size c a (rec .busy none) (k + 1) (w6.setCell ⟨w.heap.size + 2, 0, none⟩ (.slice a7 (k + 1) c7)) :=
      ⟨((k1'.out.alloc k1'.out.size _).trans (Hb6.out.mono (by omega))).setCell (by show w.heap.size ≤ w.heap.size + 2; omega) _,
        ((hset _ (by omega)).trans (hold _ (by omega))).trans k2'.out, ((hset _ (by omega)).trans (hold _ (by omega))).trans k3'.out,
        ⟨a7, c7, HB16.out.set 0 _, by rw [hbk'.out, ints_append]; exact own_set_other Hown.out (by omega) 0 _⟩,
        ((hset _ (by omega)).trans (hold _ (by omega))).trans k6'.out, ((hset _ (by omega)).trans (hold _ (by omega))).trans k7'.out, ((hset _ (by omega)).trans (hold _ (by omega))).trans k8'.out⟩
    exact ⟨F7.lb, rfl, F7.put⟩
  case done =>
    rintro e W2 ⟨hv, hF⟩
    unfold rfDone
    simp only [World.size_alloc, Nat.add_assoc, Nat.reduceAdd]
    refine ⟨hv, .ready, none, by decide, hF.lb, ?_⟩
    dsimp only
    have F2 := hF.put (l' := rec .exhausted none)
    obtain ⟨W3, hW3⟩ : ∃ W3, W3 = W2.putObj (w.heap.size + 5) (.loop (rec .exhausted none)) := ⟨_, rfl⟩
    rw [← hW3] at F2 ⊢
    clear hW3 hF hrec
    obtain ⟨k1, k2, k3, ⟨a4, c4, k4, k5⟩, k6, k7, k8⟩ := F2
    have p3 : W3.cell? ⟨w.heap.size + 2, 0, none⟩ = some (.slice a4 2 c4) := k4.cell rfl
    have p0 : W3.cell? ⟨w.heap.size, 0, none⟩ = some (.slice none 0 0) := k2.cell rfl
    have p1 : W3.cell? ⟨w.heap.size + 1, 0, none⟩ = some (.int .i64 0) := k3.cell rfl
    have z0 := k2.frozen 0
    have z1 := k3.frozen 0
    have one := one_new' W3 3 (.int .i64 (30 : Int))
    have hlt5 := (Array.getElem?_eq_some_iff.1 k8).1
    have k1' := Lib.hid k1
    have k2' := Lib.hid k2
    have k3' := Lib.hid k3
    have k4' := Lib.hid k4
    have k5' := Lib.hid k5
    have k6' := Lib.hid k6
    have k7' := Lib.hid k7
    have k8' := Lib.hid k8
    have one' := Lib.hid one
    clear k1 k2 k3 k4 k5 k6 k7 k8 one
    gi_wp2_with (gi_at_builtin; refine wpListIn_append_own _ rfl _ _ 22 rfl (w.heap.size + 6) 3 i0 (.int .i64 0) 1 8 Try.underlying22 hi hz0 hz1 hz2 rfl (by decide) _ 2 _ rfl (World.ownsRow.alloc k5'.out _) ⟨W3.heap.size, 0, none⟩ 1 1 [.int .i64 (30 : Int)] rfl rfl one'.out (by simp [Value.oneCell']) (by unfold maxLen; omega) (by omega) (by simp only [World.size_alloc]; omega) ?_; intro v' w6 hown hgrow hnil; clear hnil; obtain ⟨a7, c7, rfl⟩ := own_slice hown; have hb6 : Below (w.heap.size + 6) (W3.alloc (.cells #[.int .i64 (30 : Int)] 3)) w6 := below_grown (Below.refl _ _) hgrow (by simp only [World.size_alloc]; omega) (World.ownsRow.alloc k5'.out _); have B10 : Blk w6 w.heap.size 22 #[.slice none 0 0] := (k2'.out.alloc _).mono hb6 (by omega); have B11 : Blk w6 (w.heap.size + 1) 37 #[.int .i64 0] := (k3'.out.alloc _).mono hb6 (by omega); have HB10 := Lib.hid B10; have HB11 := Lib.hid B11; have Hown := Lib.hid hown; have Hb6 := Lib.hid hb6; have p5 : w6.cell? ⟨w.heap.size, 0, none⟩ = some (.slice none 0 0) := B10.cell rfl; have p6 : w6.frozen? ⟨w.heap.size, 0, none⟩ = false := B10.frozen 0; have p7 : w6.cell? ⟨w.heap.size + 1, 0, none⟩ = some (.int .i64 0) := B11.cell rfl; have p8 : w6.frozen? ⟨w.heap.size + 1, 0, none⟩ = false := B11.frozen 0; clear hown hgrow hb6 B10 B11)
    have hold : ∀ j, j < w.heap.size + 6 → w6.heap[j]? = W3.heap[j]? := fun j hj => (Hb6.out.block j hj).trans (heap_old _ _ (by omega))
    obtain ⟨W7, hW7⟩ : ∃ W7, W7 = (w6.setCell ⟨w.heap.size, 0, none⟩ (.slice a7 3 c7)).setCell ⟨w.heap.size + 1, 0, none⟩ (.int .i64 0) := ⟨_, rfl⟩
    rw [← hW7]
    have h7 : ∀ j, j ≠ w.heap.size → j ≠ w.heap.size + 1 → W7.heap[j]? = w6.heap[j]? := fun j h1 h2 => by rw [hW7]; exact (Below.heap_setCell _ _ _ _ h2).trans (Below.heap_setCell _ _ _ _ h1)
    have e5 : W7.heap[w.heap.size + 4]? = some (.deferred (some [])) := ((h7 _ (by omega) (by omega)).trans (hold _ (by omega))).trans k7'.out
    refine ⟨by simp, .inl ⟨_, _, rfl, run_takeDeferred e5, ?_⟩⟩
    have ho : ∀ k, k ≠ w.heap.size + 4 → (W7.putObj (w.heap.size + 4) (.deferred none)).heap[k]? = W7.heap[k]? := fun k hk => World.putObj_heap_other hk
    have b7 : Blk W7 w.heap.size 22 #[.slice a7 3 c7] := by rw [hW7]; exact (HB10.out.set 0 _).set_other (by omega) 0 _
    have b8 : Blk W7 (w.heap.size + 1) 37 #[.int .i64 0] := by rw [hW7]; exact (HB11.out.set_other (by omega) 0 _).set 0 _
    have B7 : Blk (W7.putObj (w.heap.size + 4) (.deferred none)) w.heap.size 22 #[.slice a7 3 c7] := (ho _ (by omega)).trans b7
    have B8 : Blk (W7.putObj (w.heap.size + 4) (.deferred none)) (w.heap.size + 1) 37 #[.int .i64 0] := (ho _ (by omega)).trans b8
    have o7 : W7.ownsRow (w.heap.size + 6) 3 1 (.slice a7 3 c7) 3 (ints .i64 [0, 15, 30]) := by rw [hW7]; exact own_set_other (own_set_other Hown.out (by omega) 0 _) (by omega) 0 _
    have o8 := own_above (w' := W7.putObj (w.heap.size + 4) (.deferred none)) o7 (fun k hk _ => ho k (by omega))
    have hbel : Below w.heap.size w (W7.putObj (w.heap.size + 4) (.deferred none)) := by
      have h1 : Below w.heap.size w W7 := by
        rw [hW7]
        exact (((k1'.out.alloc k1'.out.size _).trans (Hb6.out.mono (by omega))).setCell (p := ⟨w.heap.size, 0, none⟩) (Nat.le_refl _) _).setCell (p := ⟨w.heap.size + 1, 0, none⟩) (Nat.le_succ _) _
      exact h1.trans ⟨rfl, rfl, rfl, by simp, fun k hk => ho k (by omega)⟩
    have q0 := B7.cell (i := 0) rfl
    have q1 := B8.cell (i := 0) rfl
    exact ⟨.tuple #[.slice a7 3 c7, .int .i64 0], by simp [results, Try.results14, go_sem, q0, q1], _, _, rfl, (Sl.of_own o8).1, hbel⟩
end Go.Proofs.Ythcecnolmhillaa
