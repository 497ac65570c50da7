/- Chapter 23: registry.All: the tags of a directory, in order. -/
import Derived.Test.YtnhcmibngcmebaaReg3
import Derived.Test.YtnhcmibngcmebaaMk
import Derived.Test.YtnhcmibngcmebaaShelfS
import Derived.Sort.OwnSortedInts
namespace Go.Proofs.Ytnhcmibngcmebaa
open Go.RowKit Tt
attribute [local go_sem] Oper.semAt_some
set_option linter.unusedVariables false

theorem keysfn_any (b : Nat) (w : World) : Calls Try.prog 49 #[.map (some b)] w fun e w' => e = .returned (.func (.func 72) #[] #[.pointer (some ⟨w.heap.size, 0, none⟩)]) ∧ w' = w.alloc (.cells #[.map (some b)] 58) := by
  go_enter Try.func49, Try.ntmps49
  go_wp2
  go_ret
  exact ⟨rfl, rfl⟩

theorem info3 : (Try.prog.info? 3).map (fun i => (i.zero, i.size, i.bytes)) = some (some (.int .i64 0), 1, 8) := by kernel_rfl

theorem one_new' (w : World) (E : TypeId) (v : Value) : ∀ j u, [v][j]? = some u → (w.alloc (.cells #[v] E)).cell? ((⟨w.heap.size, 0, none⟩ : Addr).add j) = some u := by
  intro j u hj
  have hs := (Sl.new w E 1 1 #[v] (0, 0) (by decide) rfl).lies 0 (by decide)
  obtain ⟨b, o, e, _, hc⟩ := hs
  injection e with e
  injection e with e1 e2 e3
  subst e1 e2
  rw [Addr.add_lit]
  exact hc j u hj

theorem own_slice {w : World} {B : Nat} {E : TypeId} {sz : Nat} {v : Value} {n : Nat} {xs : List Value} (h : w.ownsRow B E sz v n xs) : ∃ a c, v = .slice a n c := by
  rcases h.2 with ⟨rfl, h0⟩ | ⟨g, cap, cur, rfl, _⟩
  · exact ⟨none, 0, by rw [h0]⟩
  · exact ⟨_, _, rfl⟩

theorem Ks.fin {w Wb W8 : World} {N B b : Nat} {es : Array MapEntry} {clock : Nat} {l : Loop} {dir : Int} {xs : List Int} (hNb : N + 1 < b) (hbB : b < B)
    (H0 : Blk Wb N 3 #[.int .i64 dir]) (HM : Wb.heap[b]? = some (.map es clock)) (HK : Wb.heap[B]? = some (.cells #[.map (some b)] 58)) (HD : Wb.heap[B + 1]? = some (.deferred (some [])))
    (h : ∀ k, k ≠ N + 1 → k ≠ B + 2 → k < B + 4 → W8.heap[k]? = Wb.heap[k]?) (h1 : ∃ a c, W8.heap[N + 1]? = some (.cells #[.slice a xs.length c] 30) ∧ W8.ownsRow (B + 4) 3 1 (.slice a xs.length c) xs.length (ints .i64 xs))
    (hl : W8.heap[B + 2]? = some (.loop l)) (hb : Below N w W8) : Ks w N B b es clock l dir xs W8 :=
  ⟨hb, (h _ (by omega) (by omega) (by omega)).trans H0, h1, (h _ (by omega) (by omega) (by omega)).trans HM, (h _ (by omega) (by omega) (by omega)).trans HK, (h _ (by omega) (by omega) (by omega)).trans HD, hl⟩

theorem sort_any (B0 : Nat) (a : Option Addr) (n c : Nat) (xs : List Int) (w : World) (ho : w.ownsRow B0 3 1 (.slice a n c) n (ints .i64 xs)) (hn : n < 4611686018427387904) :
    Calls Try.prog 50 #[.slice a n c] w fun e w' => e = .returned (.tuple #[]) ∧ w'.ownsRow B0 3 1 (.slice a n c) n (ints .i64 (xs.mergeSort fun x y => decide (x ≤ y))) ∧ w.grownBy w' (Value.slice a n c).ownBlock := by
  have hl : xs.length = n := by have := ho.1; rw [ints_len] at this; omega
  rcases Nat.eq_zero_or_pos n with h0 | h0
  · subst h0
    have hx : xs = [] := List.eq_nil_of_length_eq_zero hl
    subst hx
    refine (Try.slices_Sort_int_none a c w).mono ?_
    rintro e w' ⟨rfl, rfl⟩
    exact ⟨rfl, by simpa using ho, World.grownBy.refl _ _⟩
  · rcases ho.2 with ⟨_, h1⟩ | ⟨g, cap, cur, hv, hB, hg, h1, h2, h3, h4⟩
    · omega
    · cases hv
      have hlt : g < w.heap.size := (Array.getElem?_eq_some_iff.1 hg).1
      have hb := holds_of_blockI hg (by rw [hl]; simpa [ints] using h4)
      have hs := Try.slices_Sort_int g 0 c xs w hb hlt (by omega)
      rw [hl] at hs
      refine hs.mono ?_
      rintro e w' ⟨rfl, k, os, rfl⟩
      have hml : (xs.mergeSort fun x y => decide (x ≤ y)).length = xs.length := List.length_mergeSort _
      have ho2 := ownsRow_sortedI (n := k) (os := os) (base := B0) hml hB hg (by omega) h2 (by omega)
      rw [hl] at ho2
      exact ⟨rfl, ho2, grownBy_sortedI _⟩

set_option maxRecDepth 100000 in
set_option maxHeartbeats 2000000 in
theorem all_any (dir : Int) (w : World) :
    Calls Try.prog 29 #[.int .i64 dir] w fun e w' => ∃ a n c ss, e = .returned (.slice a n c) ∧ Sl w' a n c 1 (ints .i64 ((pick dir (keysOf allE ss)).mergeSort fun x y => decide (x ≤ y))) ∧ ss.Nodup ∧ (∀ i, i ∈ ss ↔ i < allE.length) ∧ Below w.heap.size w w' := by
  refine (callsIn_wide (n := 10)).1 ?_
  refine callsIn_of_wp_marks Try.func29 rfl trivial ?_ rfl
  simp only [Try.ntmps29, List.size_toArray, List.length_cons, List.length_nil, Nat.reduceAdd, Nat.reduceSub, Array.replicate_succ, Array.replicate_zero, List.push_toArray, List.append_toArray, List.nil_append, List.cons_append]
  gi_wp2_with (first | (refine ⟨trivial, ?_⟩; gi_at_call 34; refine (callsIn_wide.2 (rules_any _)).mono ?_; rintro e w1 ⟨b, rfl, hbb, hr1, hb1⟩) | (refine ⟨trivial, ?_⟩; gi_at_call 49; refine (callsIn_wide.2 (keysfn_any _ _)).mono ?_; rintro e w' ⟨rfl, rfl⟩))
  have hsz2 : ((w.alloc (.cells #[.int .i64 dir] 3)).alloc (.cells #[.slice none 0 0] 30)).heap.size = w.heap.size + 2 := by simp
  rw [hsz2] at hbb hb1
  obtain ⟨es, clock, m1, m2, m3, m4, m5⟩ := hr1
  have hlb : b < w1.heap.size := (Array.getElem?_eq_some_iff.1 m1).1
  have n0 : w1.heap[w.heap.size]? = some (.cells #[.int .i64 dir] 3) := by
    rw [hb1.block _ (by omega), heap_old _ _ (by simp)]; exact heap_new _ _
  have n1 : w1.heap[w.heap.size + 1]? = some (.cells #[.slice none 0 0] 30) := by
    rw [hb1.block _ (by omega)]; exact heap_new' _ _ (by simp)
  have hbel : Below w.heap.size w w1 := (((Below.refl _ _).alloc (Nat.le_refl _) _).alloc (by simp) _).trans (hb1.mono (by omega))
  have hek : ∀ (i : Nat) e, es[i]? = some e → e.key = plc (allE.getD i ((0, 0), ([], 0))).1.1 (allE.getD i ((0, 0), ([], 0))).1.2 := fun i e he => by
    have hi : i < allE.length := by rw [← m2]; exact (Array.getElem?_eq_some_iff.1 he).1
    have h := (m3 i e allE[i] he (List.getElem?_eq_getElem hi)).2.1
    rw [List.getD_eq_getElem?_getD, List.getElem?_eq_getElem hi]
    exact h
  have hlen : allE.length ≤ 1000 := by decide +kernel
  obtain ⟨i0, hi, hz0, hz1, hz2⟩ := info_parts info3
  refine rf_law' rfl (by omega) rfl trivial (enters_of Try.func72 (by kernel_rfl) rfl) ?_
  intro fn rec hfn hrec
  simp only [World.size_alloc, Nat.add_assoc, Nat.reduceAdd]
  refine CallsIn.mono (keys1_in w w.heap.size w1.heap.size b es clock (rec .ready none) dir allE (by omega) hlb m2 hek m4 m5 ?round _ ?init (by simp)) ?done
  case init =>
    refine ⟨((hbel.alloc hbel.size _).alloc (by have := hbel.size; simp; omega) _).alloc (by have := hbel.size; simp; omega) _, ?_, ⟨none, 0, ?_, own_nil _ _ _ _⟩, ?_, ?_, ?_, heap_new' _ _ (by simp)⟩
    · rw [heap_old _ _ (by simp only [World.size_alloc]; omega), heap_old _ _ (by simp only [World.size_alloc]; omega), heap_old _ _ (by omega)]; exact n0
    · rw [heap_old _ _ (by simp only [World.size_alloc]; omega), heap_old _ _ (by simp only [World.size_alloc]; omega), heap_old _ _ (by omega)]; exact n1
    · rw [heap_old _ _ (by simp only [World.size_alloc]; omega), heap_old _ _ (by simp only [World.size_alloc]; omega), heap_old _ _ (by omega)]; exact m1
    · rw [heap_old _ _ (by simp only [World.size_alloc]; omega), heap_old _ _ (by simp)]; exact heap_new _ _
    · rw [heap_old _ _ (by simp)]; exact heap_new' _ _ (by simp)
  case round =>
    rintro d t xs W hks hlt hxl
    have Hlt := Lib.hid hlt
    clear m1 m2 m3 m4 m5 hek n0 n1 hb1 hsz2 hlt
    refine rf_round' hfn hrec hks.lb rfl ?_
    unfold plc
    gi_wp2
    have hlt := Hlt.out
    have hB2 : w1.heap.size + 2 < W.heap.size := by omega
    refine ⟨(heap_old _ _ hB2).trans hks.lb, ?_⟩
    obtain ⟨k1, k2, ⟨a4, c4, k3, k4⟩, k5, k6, k7, k8⟩ := hks
    obtain ⟨Wb, hWb⟩ : ∃ Wb, Wb = (W.alloc (.cells #[.int .i64 d, .int .i64 t] 61)).putObj (w1.heap.size + 2) (.loop (rec .busy none)) := ⟨_, rfl⟩
    obtain ⟨g, hg⟩ : ∃ g, g = W.heap.size := ⟨_, rfl⟩
    have hsB : Wb.heap.size = g + 1 := by rw [hWb, hg]; simp
    have hl : Wb.heap[w1.heap.size + 2]? = some (.loop (rec .busy none)) := by rw [hWb]; exact World.putObj_heap_same (by simp; omega)
    have hpl : Wb.heap[g]? = some (.cells #[.int .i64 d, .int .i64 t] 61 (0, 0)) := by rw [hWb, hg]; exact (World.putObj_heap_other (by omega)).trans (heap_new _ _)
    have hol : ∀ k, k ≠ w1.heap.size + 2 → k < W.heap.size → Wb.heap[k]? = W.heap[k]? := fun k hk hk2 => by rw [hWb]; exact (World.putObj_heap_other hk).trans (heap_old _ _ hk2)
    have hbb2 : Below w.heap.size w Wb := k1.trans ⟨by rw [hWb]; rfl, by rw [hWb]; rfl, by rw [hWb]; rfl, by rw [hsB]; omega, fun k hk => hol k (by omega) (by omega)⟩
    rw [← hWb, ← hg]
    have B0 : Blk Wb w.heap.size 3 #[.int .i64 dir] := (hol _ (by omega) (by omega)).trans k2
    have B1 : Blk Wb (w.heap.size + 1) 30 #[.slice a4 xs.length c4] := (hol _ (by omega) (by omega)).trans k3
    have BP : Blk Wb g 61 #[.int .i64 d, .int .i64 t] := hpl
    have p0 : Wb.cell? ⟨g, 0, none⟩ = some (.int .i64 d) := BP.cell rfl
    have p1 : Wb.cell? ⟨g, 1, none⟩ = some (.int .i64 t) := BP.cell rfl
    have p2 : Wb.cell? ⟨w.heap.size, 0, none⟩ = some (.int .i64 dir) := B0.cell rfl
    have p3 : Wb.cell? ⟨w.heap.size + 1, 0, none⟩ = some (.slice a4 xs.length c4) := B1.cell rfl
    have p4 : Wb.frozen? ⟨w.heap.size + 1, 0, none⟩ = false := B1.frozen 0
    have hro := own_above (w' := Wb) k4 (fun k hk hk2 => hol k (by omega) hk2)
    have hdf := (hol _ (by omega) (by omega)).trans k7
    have hkb := (hol _ (by omega) (by omega)).trans k6
    have hmb := (hol _ (by omega) (by omega)).trans k5
    have hit := hol (w1.heap.size + 3) (by omega) (by omega)
    have Hro := Lib.hid hro
    have Hdf := Lib.hid hdf
    have Hkb := Lib.hid hkb
    have Hmb := Lib.hid hmb
    have Hit := Lib.hid hit
    have HB0 := Lib.hid B0
    have HB1 := Lib.hid B1
    have Hl := Lib.hid hl
    have HsB := Lib.hid hsB
    have Hbb2 := Lib.hid hbb2
    clear hro hdf hkb hmb hit B0 B1 BP hpl hol hWb k1 k2 k3 k4 k5 k6 k7 k8 hrec hl hsB hbb2
    have hgW : w1.heap.size + 4 ≤ g := by omega
    have Hg := Lib.hid hg
    clear hg hlt hB2
    by_cases hd : d = dir
    · have hdb : (d == dir) = true := by simpa using hd
      have hpk : pick dir [(d, t)] = [t] := by simp [pick, hd]
      have Hpk := Lib.hid hpk
      clear hpk hd
      have one := one_new' Wb 3 (.int .i64 t)
      have One := Lib.hid one
      clear one
      gi_wp2_with (first
        | (gi_at_builtin; refine wpListIn_append_own _ rfl _ _ 30 rfl (w1.heap.size + 4) 3 i0 (.int .i64 0) 1 8 Try.underlying30 hi hz0 hz1 hz2 rfl (by decide) _ xs.length _ rfl (World.ownsRow.alloc Hro.out _) ⟨Wb.heap.size, 0, none⟩ 1 1 [.int .i64 t] rfl rfl One.out (by simp [Value.oneCell']) (by unfold maxLen; omega) (by omega) (by simp only [World.size_alloc]; have := HsB.out; omega) ?_; intro v' w6 hown hgrow hnil; clear hnil; obtain ⟨a7, c7, rfl⟩ := own_slice hown; have hb6 : Below (w1.heap.size + 4) (Wb.alloc (.cells #[.int .i64 t] 3)) w6 := below_grown (Below.refl _ _) hgrow (by simp only [World.size_alloc]; have := HsB.out; omega) (World.ownsRow.alloc Hro.out _); have B16 : Blk w6 (w.heap.size + 1) 30 #[.slice a4 xs.length c4] := (HB1.out.alloc _).mono hb6 (by omega); have HB16 := Lib.hid B16; have Hown := Lib.hid hown; have Hb6 := Lib.hid hb6; have p5 : w6.cell? ⟨w.heap.size + 1, 0, none⟩ = some (.slice a4 xs.length c4) := B16.cell rfl; have p6 : w6.frozen? ⟨w.heap.size + 1, 0, none⟩ = false := B16.frozen 0; clear hown hgrow hb6 B16)
        | gi_in)
      obtain ⟨W7, hW7⟩ : ∃ W7, W7 = w6.setCell ⟨w.heap.size + 1, 0, none⟩ (.slice a7 (xs.length + 1) c7) := ⟨_, rfl⟩
      rw [← hW7]
      have hs6 : ∀ k, k < w1.heap.size + 4 → w6.heap[k]? = Wb.heap[k]? := fun k hk => (Hb6.out.block k hk).trans (heap_old _ _ (by have := HsB.out; omega))
      have h7 : ∀ k, k ≠ w.heap.size + 1 → W7.heap[k]? = w6.heap[k]? := fun k hk => by rw [hW7]; exact Below.heap_setCell _ _ _ _ hk
      have b7 : Blk W7 (w.heap.size + 1) 30 #[.slice a7 (xs.length + 1) c7] := by rw [hW7]; exact HB16.out.set 0 _
      have o7 : W7.ownsRow (w1.heap.size + 4) 3 1 (.slice a7 (xs.length + 1) c7) (xs.length + 1) (ints .i64 xs ++ [.int .i64 t]) := by rw [hW7]; exact own_set_other Hown.out (by omega) _ _
      have l7 : W7.heap[w1.heap.size + 2]? = some (.loop (rec .busy none)) := ((h7 _ (by omega)).trans (hs6 _ (by omega))).trans Hl.out
      have hbe : Below w.heap.size w W7 := by rw [hW7]; exact ((Hbb2.out.alloc Hbb2.out.size _).trans (Hb6.out.mono (by have := hbel.size; omega))).setCell (Nat.le_succ _) _
      have s7 : W7.heap.size = w6.heap.size := by rw [hW7]; simp
      have hp : ∀ k, k ≠ w1.heap.size + 2 → (W7.putObj (w1.heap.size + 2) (.loop (rec .ready none))).heap[k]? = W7.heap[k]? := fun k hk => World.putObj_heap_other hk
      rw [show xs ++ pick dir [(d, t)] = xs ++ [t] by rw [Hpk.out]]
      refine ⟨l7, rfl, Ks.fin (by omega) hlb HB0.out Hmb.out Hkb.out Hdf.out (fun k h1 h2 h3 => (hp k h2).trans ((h7 k h1).trans (hs6 k h3))) ?_ (World.putObj_heap_same (Array.getElem?_eq_some_iff.1 l7).1) (hbe.trans ⟨rfl, rfl, rfl, by simp, fun k hk => hp k (by have := hbel.size; omega)⟩), ?_⟩
      · exact ⟨a7, c7, (hp _ (by omega)).trans (by rw [List.length_append]; exact b7), by rw [List.length_append, ints_append]; exact own_above o7 (fun k hk _ => hp k (by omega))⟩
      · rw [hp _ (by omega), h7 _ (by omega), hs6 _ (by omega)]; exact Hit.out
    · have hdb : (d == dir) = false := by simpa using hd
      have hpk : pick dir [(d, t)] = [] := by simp [pick, hd]
      have Hpk := Lib.hid hpk
      clear hpk hd
      gi_wp2
      have hp : ∀ k, k ≠ w1.heap.size + 2 → (Wb.putObj (w1.heap.size + 2) (.loop (rec .ready none))).heap[k]? = Wb.heap[k]? := fun k hk => World.putObj_heap_other hk
      rw [show xs ++ pick dir [(d, t)] = xs by rw [Hpk.out, List.append_nil]]
      refine ⟨Hl.out, rfl, Ks.fin (by omega) hlb HB0.out Hmb.out Hkb.out Hdf.out (fun k h1 h2 h3 => hp k h2) ?_ (World.putObj_heap_same (Array.getElem?_eq_some_iff.1 Hl.out).1) (Hbb2.out.trans ⟨rfl, rfl, rfl, by simp, fun k hk => hp k (by have := hbel.size; omega)⟩), ?_⟩
      · exact ⟨a4, c4, (hp _ (by omega)).trans HB1.out, own_above Hro.out (fun k hk _ => hp k (by omega))⟩
      · rw [hp _ (by omega)]; exact Hit.out
  case done =>
    rintro e W2 ⟨hv, ss, hnd, hmem, hks⟩
    unfold rfDone
    simp only [World.size_alloc, Nat.add_assoc, Nat.reduceAdd]
    refine ⟨hv, .ready, none, by decide, hks.lb, ?_⟩
    have hxl : (pick dir (keysOf allE ss)).length ≤ 1000 := by
      have h1 := nodup_len allE.length ss hnd (fun i hi => (hmem i).1 hi)
      have h2 : (pick dir (keysOf allE ss)).length ≤ (keysOf allE ss).length := List.length_filterMap_le _ _
      have h3 : (keysOf allE ss).length = ss.length := by simp [keysOf]
      omega
    have Hnd := Lib.hid hnd
    have Hmem := Lib.hid hmem
    clear hnd hmem m1 m2 m3 m4 m5 hek n0 n1 hb1 hsz2 hlen hrec
    obtain ⟨xs, hxs⟩ : ∃ xs, pick dir (keysOf allE ss) = xs := ⟨_, rfl⟩
    rw [hxs] at hks hxl
    have Hxs := Lib.hid hxs
    clear hxs
    obtain ⟨k1, k2, ⟨a4, c4, k3, k4⟩, k5, k6, k7, k8⟩ := hks
    obtain ⟨W3, hW3⟩ : ∃ W3, W3 = W2.putObj (w1.heap.size + 2) (.loop (rec .exhausted none)) := ⟨_, rfl⟩
    have hp : ∀ k, k ≠ w1.heap.size + 2 → W3.heap[k]? = W2.heap[k]? := fun k hk => by rw [hW3]; exact World.putObj_heap_other hk
    have hbe : Below w.heap.size w W3 := k1.trans ⟨by rw [hW3]; rfl, by rw [hW3]; rfl, by rw [hW3]; rfl, by rw [hW3]; simp, fun k hk => hp k (by have := hbel.size; omega)⟩
    have hs3 : w1.heap.size + 2 < W3.heap.size := by rw [hW3]; have := (Array.getElem?_eq_some_iff.1 k8).1; simpa using this
    dsimp only
    rw [← hW3]
    have B1 : Blk W3 (w.heap.size + 1) 30 #[.slice a4 xs.length c4] := (hp _ (by omega)).trans k3
    have D3 := (hp _ (by omega)).trans k7
    have O3 := own_above (w' := W3) k4 (fun k hk _ => hp k (by omega))
    have p3 : W3.cell? ⟨w.heap.size + 1, 0, none⟩ = some (.slice a4 xs.length c4) := B1.cell rfl
    have HB1 := Lib.hid B1
    have HD3 := Lib.hid D3
    have HO3 := Lib.hid O3
    have Hbe := Lib.hid hbe
    clear hW3 hp B1 D3 O3 k1 k2 k3 k4 k5 k6 k7 k8 hbe
    gi_wp2_with (first | (refine ⟨trivial, ?_⟩; gi_at_call 50; refine (callsIn_wide.2 (sort_any (w1.heap.size + 4) a4 xs.length c4 xs _ HO3.out (by omega))).mono ?_; rintro e w4 ⟨rfl, ho4, hg4⟩; have Hb4 := Lib.hid (below_grown (B := w1.heap.size + 3) (Below.refl _ _) hg4 (by omega) (own_mono HO3.out (by omega))); have HO4 := Lib.hid ho4; clear ho4 hg4; have p4 : w4.cell? ⟨w.heap.size + 1, 0, none⟩ = some (.slice a4 xs.length c4) := (HB1.out.mono Hb4.out (by omega)).cell rfl))
    have e5 : w4.heap[w1.heap.size + 1]? = some (.deferred (some [])) := (Hb4.out.block _ (by omega)).trans HD3.out
    refine ⟨by simp, .inl ⟨_, _, rfl, run_takeDeferred e5, ?_⟩⟩
    have ho : ∀ k, k ≠ w1.heap.size + 1 → (w4.putObj (w1.heap.size + 1) (.deferred none)).heap[k]? = w4.heap[k]? := fun k hk => World.putObj_heap_other hk
    have hfin : Below w.heap.size w (w4.putObj (w1.heap.size + 1) (.deferred none)) := (Hbe.out.trans (Hb4.out.mono (by have := hbel.size; omega))).trans ⟨rfl, rfl, rfl, by simp, fun k hk => ho k (by have := hbel.size; omega)⟩
    have hsl := (Sl.of_own (own_above HO4.out (fun k hk _ => ho k (by omega)))).1
    exact ⟨.slice a4 xs.length c4, results_tmp (t := 2) rfl _ _ _, a4, xs.length, c4, ss, rfl, by rw [Hxs.out]; exact hsl, Hnd.out, Hmem.out, hfin⟩
end Go.Proofs.Ytnhcmibngcmebaa
