/- Chapter 29: Starts. -/
import Derived.Test.YthcecnolmhillaaPl2
namespace Go.Proofs.Ythcecnolmhillaa
open Go.RowKit Tt
set_option linter.unusedVariables false

theorem info3 : (Try.prog.info? 3).map (fun i => (i.zero, i.size, i.bytes)) = some (some (.int .i64 0), 1, 8) := by kernel_rfl

/-- what holds ahead of the k-th length -/
structure SI (w : World) (N g : Nat) (xs : List Int) (k : Nat) (W : World) : Prop where
  below : Below N w W
  box : ∃ a c, W.heap[g]? = some (.cells #[.slice a (k + 1) c] 22) ∧ W.ownsRow N 3 1 (.slice a (k + 1) c) (k + 1) (ints .i64 (starts xs k))
/-- is the k-th length a wrong one? -/
def badAt (xs : List Int) (k : Nat) : Bool := !(offB (xs.getD k 0) && offB (upto xs k + xs.getD k 0)) || decide (xs.getD k 0 < 1)
theorem okTo_of_bad {xs : List Int} : ∀ {k : Nat}, k ≤ xs.length → (∀ i, i < k → badAt xs i = false) → okTo xs k
  | 0, _, _ => fun i hi => by omega
  | k + 1, hk, h => by
    have h1 := okTo_of_bad (k := k) (by omega) (fun i hi => h i (by omega))
    have h2 := h k (by omega)
    unfold badAt offB at h2
    simp at h2
    refine okTo_succ h1 (by simpa using h2.2) ?_
    rw [upto_succ (by omega)]
    simp
    omega
theorem not_ok_of_bad {xs : List Int} {k n : Nat} (hk : k < n) (hn : n ≤ xs.length) (h : badAt xs k = true) : ¬ okTo xs n := fun ho => by
  have h1 := ho k hk
  have h2 := upto_nonneg (k := k) (by omega) (fun i hi => ho i (by omega))
  rw [upto_succ (by omega)] at h1
  unfold badAt offB at h
  simp at h h1
  omega

set_option maxHeartbeats 2000000 in
theorem starts1_any (w : World) (N g : Nat) (xs : List Int) (k : Nat) (W : World) (hN : w.heap.size = N) (hg : N ≤ g) (hk : k < xs.length) (hl : xs.length ≤ 17592186044415) (ho : okTo xs k) (hS : SI w N g xs k W) :
    Calls Try.prog 17 #[.int .i64 (xs.getD k 0), .pointer (some ⟨g, 0, none⟩)] W fun e W' => e = .returned (.bool (badAt xs k)) ∧ (badAt xs k = false → SI w N g xs (k + 1) W') ∧ (badAt xs k = true → Below N w W') := by
  obtain ⟨i0, hi, hz0, hz1, hz2⟩ := info_parts info3
  obtain ⟨hb, a, c, hbx, hown⟩ := hS
  have hup := upto_nonneg (k := k) (by omega) ho
  obtain ⟨g', rfl, hg', hlt', hfr, hcl⟩ := own_place hown (i := k) (by omega)
  have f1 := hcl k _ (ints_get (by rw [starts_len]; omega))
  rw [starts_get (by omega)] at f1
  have hus := upto_succ hk
  obtain ⟨s, hs⟩ : ∃ s, upto xs k = s := ⟨_, rfl⟩
  obtain ⟨u, hu⟩ : ∃ u, xs.getD k 0 = u := ⟨_, rfl⟩
  have hbd : badAt xs k = (!(offB u && offB (s + u)) || decide (u < 1)) := by unfold badAt; rw [hs, hu]
  rw [hs] at f1 hup hus
  rw [hu] at hus ⊢
  rw [hbd]
  have hne : some g ≠ (Value.slice (some ⟨g', 0, none⟩) (k + 1) c).ownBlock := own_block_ne hown hbx (by decide)
  have B0 : Blk W g 22 #[.slice (some ⟨g', 0, none⟩) (k + 1) c] := hbx
  have p0 : W.cell? ⟨g, 0, none⟩ = some (.slice (some ⟨g', 0, none⟩) (k + 1) c) := B0.cell rfl
  have HA := Lib.hid (add_any s u W hup.1 hup.2)
  have hlg := B0.lt
  have Hus := Lib.hid hus
  have HB0 := Lib.hid B0
  have Hown := Lib.hid hown
  have Hne := Lib.hid hne
  have Hb := Lib.hid hb
  have Hlg := Lib.hid hlg
  have HN := Lib.hid hN
  clear hus B0 hown hne hb hbx hcl hs hu hbd hfr hup hlg hN ho
  obtain ⟨r, hr⟩ : ∃ r, (offB u && offB (s + u)) = r := ⟨_, rfl⟩
  rw [hr] at HA ⊢
  have Hr := Lib.hid hr
  clear hr
  obtain ⟨v, hv⟩ : ∃ v, (if r = true then s + u else 0) = v := ⟨_, rfl⟩
  rw [hv] at HA
  have Hv := Lib.hid hv
  clear hv
  have hfin : ∀ (w2 : World) (a5 : Option Addr) (c5 : Nat), Blk w2 g 22 #[.slice (some ⟨g', 0, none⟩) (k + 1) c] → w2.ownsRow N 3 1 (.slice a5 (k + 1 + 1) c5) (k + 1 + 1) (ints .i64 (starts xs k) ++ [.int .i64 v]) → Below N w w2 →
      Below N w (w2.setCell ⟨g, 0, none⟩ (.slice a5 (k + 1 + 1) c5)) ∧ (r = true → SI w N g xs (k + 1) (w2.setCell ⟨g, 0, none⟩ (.slice a5 (k + 1 + 1) c5))) := fun w2 a5 c5 h1 h2 h3 => by
    have h4 : Below N w (w2.setCell ⟨g, 0, none⟩ (.slice a5 (k + 1 + 1) c5)) := h3.setCell (p := ⟨g, 0, none⟩) hg _
    refine ⟨h4, fun hr => ⟨h4, a5, c5, h1.set 0 _, ?_⟩⟩
    have h5 := own_set_ty h2 h1 (by decide) 0 (.slice a5 (k + 1 + 1) c5)
    rw [starts_succ, ints_append, Hus.out]
    have h6 := Hv.out
    rw [if_pos hr] at h6
    rw [h6]
    exact h5
  have Hfin := Lib.hid hfin
  clear hfin
  by_cases hu1 : u < 1
  · have d1 : decide (u < 1) = true := decide_eq_true hu1
    rw [d1, Bool.or_true]
    cases r
    all_goals
      go_enter Try.func17, Try.ntmps17
      go_wp2_with (first
        | (go_at_call 18; refine HA.out.mono ?_; rintro e w' ⟨rfl, rfl⟩)
        | (at_builtin; refine wpList_app rfl _ _ 22 rfl N 3 i0 _ 1 8 Try.underlying22 hi hz0 hz1 hz2 rfl (by decide) _ (k + 1) _ rfl (World.ownsRow.alloc Hown.out _) _ 1 1 _ rfl (Sl.new W 3 1 1 _ (0, 0) (by omega) rfl) (by simp [Value.oneCell']) (by omega) (by decide) (by have := Hb.out.size; have := HN.out; simp; omega) ?_; intro a5 c5 w2 ob hb2 hg2; have Ob := Lib.hid ob; have Hb2 := Lib.hid ((Hb.out.alloc (by have := Hb.out.size; have := HN.out; omega) _).trans hb2); have B2 : Blk w2 g 22 #[.slice (some ⟨g', 0, none⟩) (k + 1) c] := (hg2.block g (by have := Hlg.out; simp; omega) (Ne.symm Hne.out).symm).trans (HB0.out.alloc _); have HB2 := Lib.hid B2; have p2 : w2.cell? ⟨g, 0, none⟩ = some (.slice (some ⟨g', 0, none⟩) (k + 1) c) := B2.cell rfl; have p3 : w2.frozen? ⟨g, 0, none⟩ = false := B2.frozen 0; clear ob hb2 hg2 B2))
      go_wp2
      go_ret
      exact ⟨rfl, (Hfin.out _ _ _ HB2.out Ob.out Hb2.out).1⟩
  · have d1 : decide (u < 1) = false := decide_eq_false hu1
    rw [d1, Bool.or_false]
    cases r
    all_goals
      go_enter Try.func17, Try.ntmps17
      go_wp2_with (first
        | (go_at_call 18; refine HA.out.mono ?_; rintro e w' ⟨rfl, rfl⟩)
        | (at_builtin; refine wpList_app rfl _ _ 22 rfl N 3 i0 _ 1 8 Try.underlying22 hi hz0 hz1 hz2 rfl (by decide) _ (k + 1) _ rfl (World.ownsRow.alloc Hown.out _) _ 1 1 _ rfl (Sl.new W 3 1 1 _ (0, 0) (by omega) rfl) (by simp [Value.oneCell']) (by omega) (by decide) (by have := Hb.out.size; have := HN.out; simp; omega) ?_; intro a5 c5 w2 ob hb2 hg2; have Ob := Lib.hid ob; have Hb2 := Lib.hid ((Hb.out.alloc (by have := Hb.out.size; have := HN.out; omega) _).trans hb2); have B2 : Blk w2 g 22 #[.slice (some ⟨g', 0, none⟩) (k + 1) c] := (hg2.block g (by have := Hlg.out; simp; omega) (Ne.symm Hne.out).symm).trans (HB0.out.alloc _); have HB2 := Lib.hid B2; have p2 : w2.cell? ⟨g, 0, none⟩ = some (.slice (some ⟨g', 0, none⟩) (k + 1) c) := B2.cell rfl; have p3 : w2.frozen? ⟨g, 0, none⟩ = false := B2.frozen 0; clear ob hb2 hg2 B2))
      go_wp2
      go_ret
      first
        | exact ⟨rfl, (Hfin.out _ _ _ HB2.out Ob.out Hb2.out).1⟩
        | exact ⟨rfl, (Hfin.out _ _ _ HB2.out Ob.out Hb2.out).2 trivial⟩

set_option maxHeartbeats 2000000 in
theorem starts_any (a : Option Addr) (n c : Nat) (xs : List Int) (w : World) (hs : Sl w a n c 1 (ints .i64 xs)) (hl : n ≤ 1000000) :
    Calls Try.prog 6 #[.slice a n c] w fun e w' => ∃ a' n' c', e = .returned (.tuple #[.slice a' n' c', .bool (startsOk xs)]) ∧ Sl w' a' n' c' 1 (ints .i64 (startsV xs)) ∧ Below w.heap.size w w' := by
  have hxl := hs.ilen
  have hle := hs.le
  have hmx := hs.max
  obtain ⟨W1, hW1⟩ : ∃ W1, W1 = (w.alloc (.cells #[.int .i64 0] 3)).alloc (.cells #[.slice (some ⟨w.heap.size, 0, none⟩) 1 1] 22) := ⟨_, rfl⟩
  obtain ⟨g, hg⟩ : ∃ g, g = w.heap.size + 1 := ⟨_, rfl⟩
  have hb1 : Below w.heap.size w W1 := by rw [hW1]; exact ((Below.refl _ _).alloc (Nat.le_refl _) _).alloc (by simp) _
  have hbx : Blk W1 g 22 #[.slice (some ⟨w.heap.size, 0, none⟩) 1 1] := by rw [hW1, hg]; exact heap_new' _ _ (by simp)
  have hS : SI w w.heap.size g xs 0 W1 := by
    refine ⟨hb1, _, _, hbx, ?_⟩
    have h := own_new w w.heap.size 3 1 1 #[.int .i64 0] (Nat.le_refl _) (by unfold maxLen; omega) rfl
    rw [hW1]
    exact World.ownsRow.alloc h _
  have HC := Lib.hid (containsfn_any 17 (.inl rfl) (.pointer (some ⟨g, 0, none⟩)) a n c xs (fun k W => SI w w.heap.size g xs k W) (fun _ W => Below w.heap.size w W) (badAt xs) W1 (by omega) hS
    (fun k W h => hs.mono h.below)
    (fun k W hk hall h => starts1_any w w.heap.size g xs k W rfl (by omega) (by omega) (by omega) (okTo_of_bad (by omega) hall) h))
  have Hxl := Lib.hid hxl
  obtain ⟨ok, hok⟩ : ∃ ok, startsOk xs = ok := ⟨_, rfl⟩
  obtain ⟨V, hV⟩ : ∃ V, startsV xs = V := ⟨_, rfl⟩
  rw [hok, hV]
  have Hok := Lib.hid hok
  have HV := Lib.hid hV
  clear hs hb1 hbx hS hxl hok hV
  go_enter Try.func6, Try.ntmps6
  go_upto_region 2 with fail
  rw [← hW1, ← hg]
  have Hg := Lib.hid hg
  clear hW1 hg
  go_wp2_with fail
  refine HC.out.mono ?_
  rintro e w2 ⟨j, hall, h⟩
  rcases h with ⟨h1, h2, rfl, h3⟩ | ⟨h1, rfl, h3⟩
  · have hno : startsOk xs = false := decide_eq_false (not_ok_of_bad (by rw [Hxl.out]; exact h1) (Nat.le_refl _) h2)
    have hv : startsV xs = [] := by unfold startsV; rw [hno]; rfl
    obtain rfl : ok = false := Hok.out.symm.trans hno
    obtain rfl : V = [] := HV.out.symm.trans hv
    have H3 := Lib.hid h3
    clear h3 h2 hall hno hv
    go_wp2
    go_ret2
    exact ⟨_, _, _, rfl, Sl.nil _ _, H3.out⟩
  · have hok : startsOk xs = true := decide_eq_true (okTo_of_bad (Nat.le_refl _) (by rw [Hxl.out, ← h1]; exact hall))
    have hv : startsV xs = starts xs n := by unfold startsV; rw [if_pos hok, Hxl.out]
    obtain rfl : ok = true := Hok.out.symm.trans hok
    obtain rfl : V = starts xs n := HV.out.symm.trans hv
    obtain ⟨hb, a4, c4, hbx, hown⟩ := h3
    have p0 : w2.cell? ⟨g, 0, none⟩ = some (.slice a4 (n + 1) c4) := Blk.cell hbx rfl
    have Hb := Lib.hid hb
    have HS := Lib.hid (Sl.of_own hown).1
    clear hb hbx hown hall hok hv
    go_wp2
    go_ret2
    exact ⟨_, _, _, rfl, HS.out, Hb.out⟩
end Go.Proofs.Ythcecnolmhillaa
