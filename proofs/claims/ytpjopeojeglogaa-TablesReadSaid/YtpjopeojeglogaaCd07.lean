/- slices.Sort, Values, AppendSeq, Collect, Sorted over ints. -/
import Derived.Sort.OwnSortedInts
import Derived.ArgAppend
import Derived.Test.YtpjopeojeglogaaShelf
import Derived.Test.YtpjopeojeglogaaCd06
import Derived.Test.YtpjopeojeglogaaCd02
namespace Go.Proofs.Ytpjopeojeglogaa
open Go.RowKit Tt
attribute [local go_sem] Oper.semAt_some
set_option linter.unusedVariables false
set_option linter.unusedSimpArgs false

theorem infoI : (Try.prog.info? 3).map (fun i => (i.zero, i.size, i.bytes)) = some (some (.int .i64 0), 1, 8) := by kernel_rfl
theorem one_newI (w : World) (E : TypeId) (v : Value) : ∀ j u, [v][j]? = some u → (w.alloc (.cells #[v] E)).cell? ((⟨w.heap.size, 0, none⟩ : Addr).add j) = some u := by
  intro j u hj; have hs := (Sl.new w E 1 1 #[v] (0, 0) (by decide) rfl).lies 0 (by decide); obtain ⟨b, o, e, _, hc⟩ := hs; injection e with e; injection e with e1 e2 e3; subst e1 e2; rw [Addr.add_lit]; exact hc j u hj

theorem own_sliceI {w : World} {B : Nat} {E : TypeId} {sz : Nat} {v : Value} {n : Nat} {xs : List Value} (h : w.ownsRow B E sz v n xs) : ∃ a c, v = .slice a n c := by
  rcases h.2 with ⟨rfl, h0⟩ | ⟨g, cap, cur, rfl, _⟩
  · exact ⟨none, 0, by rw [h0]⟩
  · exact ⟨_, _, rfl⟩

theorem isort_any (B0 : Nat) (a : Option Addr) (n c : Nat) (xs : List Int) (w : World) (ho : w.ownsRow B0 3 1 (.slice a n c) n (ints .i64 xs)) (hn : n < 4611686018427387904) :
    Calls Try.prog 139 #[.slice a n c] w fun e w' => e = .returned (.tuple #[]) ∧ w'.ownsRow B0 3 1 (.slice a n c) n (ints .i64 (xs.mergeSort fun x y => decide (x ≤ y))) ∧ w.grownBy w' (Value.slice a n c).ownBlock := by
  have hl : xs.length = n := by have := ho.1; rw [ints_len] at this; omega
  rcases Nat.eq_zero_or_pos n with h0 | h0
  · subst h0
    have hx : xs = [] := List.eq_nil_of_length_eq_zero hl; subst hx; refine (Try.slices_Sort_int_none a c w).mono ?_; rintro e w' ⟨rfl, rfl⟩; exact ⟨rfl, by simpa using ho, World.grownBy.refl _ _⟩
  · rcases ho.2 with ⟨_, h1⟩ | ⟨g, cap, cur, hv, hB, hg, h1, h2, h3, h4⟩
    · omega
    · cases hv
      have hlt : g < w.heap.size := (Array.getElem?_eq_some_iff.1 hg).1; have hb := holds_of_blockI hg (by rw [hl]; simpa [ints] using h4); have hs := Try.slices_Sort_int g 0 c xs w hb hlt (by omega); rw [hl] at hs; refine hs.mono ?_; rintro e w' ⟨rfl, k, os, rfl⟩; have hml : (xs.mergeSort fun x y => decide (x ≤ y)).length = xs.length := List.length_mergeSort _; have ho2 := ownsRow_sortedI (n := k) (os := os) (base := B0) hml hB hg (by omega) h2 (by omega); rw [hl] at ho2; exact ⟨rfl, ho2, grownBy_sortedI _⟩


theorem valsfn_any (a : Option Addr) (n c : Nat) (w : World) : Calls Try.prog 193 #[.slice a n c] w fun e w' => e = .returned (.func (.func 219) #[] #[.pointer (some ⟨w.heap.size, 0, none⟩)]) ∧ w.alloc (.cells #[.slice a n c] 35) = w' := by
  go_enter Try.func193, Try.ntmps193
  go_wp2
  go_ret
  exact ⟨rfl, rfl⟩
structure Vs (w : World) (N : Nat) (l : Loop) (ls : List Int) (k : Nat) (W : World) : Prop where
  below : Below N w W
  ob : ∃ a c, Blk W N 35 #[.slice a k c] ∧ W.ownsRow (N + 3) 3 1 (.slice a k c) k (ints .i64 (ls.take k))
  df : W.heap[N + 1]? = some (.deferred (some []))
  lp : W.heap[N + 2]? = some (.loop l)
theorem Vs.put {w : World} {N : Nat} {l l' : Loop} {ls : List Int} {k : Nat} {W : World} (h : Vs w N l ls k W) : Vs w N l' ls k (W.putObj (N + 2) (.loop l')) := by
  obtain ⟨h1, ⟨a, c, h2, h3⟩, h4, h5⟩ := h; have ho : ∀ k, k ≠ N + 2 → (W.putObj (N + 2) (.loop l')).heap[k]? = W.heap[k]? := fun k hk => World.putObj_heap_other hk; exact ⟨h1.trans ⟨rfl, rfl, rfl, by simp, fun k hk => ho k (by omega)⟩, ⟨a, c, (ho _ (by omega)).trans h2, own_above h3 fun k hk _ => ho k (by omega)⟩, (ho _ (by omega)).trans h4, World.putObj_heap_same (Array.getElem?_eq_some_iff.1 h5).1⟩
set_option maxRecDepth 100000 in
set_option maxHeartbeats 1000000 in
theorem vals1_in (w : World) (N : Nat) (l : Loop) (pb : Nat) (a : Option Addr) (n c : Nat) (ls : List Int) (hN : N = w.heap.size) (hpb : pb < w.heap.size) (hc : w.cell? ⟨pb, 0, none⟩ = some (.slice a n c)) (hs : Sl w a n c 1 (ints .i64 ls))
    (hround : ∀ k x W, k < n → ls[k]? = some x → Vs w N l ls k W → YieldAt Fence.wide 8 Try.prog (N + 2) #[.int .i64 x] W fun e W' => e = .returned (.bool true) ∧ Vs w N l ls (k + 1) W')
    (W : World) (h0 : Vs w N l ls 0 W) :
    CallsIn Fence.wide 9 Try.prog 219 #[.func (.yield (N + 2)) #[] #[], .pointer (some ⟨pb, 0, none⟩)] W fun e W' => (∃ v, e = .returned v) ∧ Vs w N l ls n W' := by
  have c0 : W.cell? ⟨pb, 0, none⟩ = some (.slice a n c) := (h0.below.cell (p := ⟨pb, 0, none⟩) (by show pb < N; omega)).trans hc; have hl := hs.ilen; have hmx := hs.max; have hle := hs.le; subst hN; have hround' := Lib.hid hround; have h0' := Lib.hid h0; have hs' := Lib.hid hs; have hl' := Lib.hid hl; have hc' := Lib.hid hc; clear hround h0 hs hl hc; refine callsIn_of_wp Try.func219 rfl trivial ?_ rfl; simp only [Try.ntmps219, List.size_toArray, List.length_cons, List.length_nil, Nat.reduceAdd, Nat.reduceSub, Array.replicate_succ, Array.replicate_zero, List.push_toArray, List.append_toArray, List.nil_append, List.cons_append]
  gi_wp2
  gi_loopw [7] (fun kv wr => ∃ k : Nat, k ≤ n ∧ kv = .int .i64 k ∧ Hid (Vs w w.heap.size l ls k wr)) (fun kv _ => n - (intOf kv).toNat)
  case atStart => exact ⟨0, by omega, rfl, h0'⟩
  case round =>
    obtain ⟨k, hk, rfl, hv⟩ := hrel
    by_cases hlt : k < n
    · have hkl : k < ls.length := by rw [hl'.out]; exact hlt
      obtain ⟨x, hx⟩ : ∃ x, ls[k]? = some x := ⟨_, List.getElem?_eq_getElem hkl⟩; have hxd : ls.getD k 0 = x := by rw [List.getD_eq_getElem?_getD, hx]; rfl
      obtain ⟨bb, o, rfl, hbb, f⟩ := hs'.out.at hlt; have f0 : w.cell? ⟨bb, o + k, none⟩ = some (.int .i64 x) := f k _ (by rw [ints_get hkl, hxd]); have f1 := (hv.out.below.cell (p := ⟨bb, o + k, none⟩) hbb).trans f0; obtain ⟨fn, tmps, assign, body, hy, hR⟩ := hround'.out k x wr hlt hx hv.out; clear f f0; have hx' := Lib.hid hx; have hxd' := Lib.hid hxd; have hR' := Lib.hid hR; clear hx hxd hR
      gi_wp2
      refine hR'.out.mono ?_; rintro e W3 ⟨rfl, hz4⟩; have hz4' := Lib.hid hz4; clear hz4
      gi_wp2
      go_roundw
      case rel => exact ⟨k + 1, by omega, by go_num, hz4'⟩
      case measure => simp [intOf]; omega
    · obtain rfl : k = n := by omega
      gi_wp2
      go_end0
      exact ⟨⟨_, rfl⟩, hv.out⟩
theorem enters_vals (args : Array Value) (w : World) : (callFunc 219 args).run Try.prog w = .ok (.enter 219 args) w := enters_of Try.func219 (by kernel_rfl) rfl args w
set_option maxRecDepth 100000 in
set_option maxHeartbeats 1000000 in
theorem appseq_any (pb : Nat) (a : Option Addr) (n c : Nat) (ls : List Int) (w : World) (hpb : pb < w.heap.size) (hc : w.cell? ⟨pb, 0, none⟩ = some (.slice a n c)) (hs : Sl w a n c 1 (ints .i64 ls)) (hn : n ≤ 1000000) :
    Calls Try.prog 230 #[.slice none 0 0, .func (.func 219) #[] #[.pointer (some ⟨pb, 0, none⟩)]] w fun e w' => ∃ a' c', e = .returned (.slice a' n c') ∧ w'.ownsRow w.heap.size 3 1 (.slice a' n c') n (ints .i64 ls) ∧ Below w.heap.size w w' := by
  obtain ⟨i0, hi, hz0, hz1, hz2⟩ := info_parts infoI; have hl := hs.ilen; refine (callsIn_wide (n := 10)).1 ?_; refine callsIn_of_wp_marks Try.func230 rfl trivial ?_ rfl; simp only [Try.ntmps230, List.size_toArray, List.length_cons, List.length_nil, Nat.reduceAdd, Nat.reduceSub, Array.replicate_succ, Array.replicate_zero, List.push_toArray, List.append_toArray, List.nil_append, List.cons_append]; have HL := Lib.hid hl; have HS := Lib.hid hs; have HC := Lib.hid hc; clear hl hs hc
  gi_wp2
  refine rf_law' rfl (by omega) rfl trivial enters_vals ?_; intro fn rec hfn hrec; simp only [World.size_alloc, Nat.add_assoc, Nat.reduceAdd]; refine CallsIn.mono (vals1_in w w.heap.size (rec .ready none) pb a n c ls rfl hpb HC.out HS.out ?round _ ?init) ?done
  case init =>
    exact ⟨(((Below.refl w.heap.size w).alloc (Nat.le_refl _) _).alloc (by simp) _).alloc (by simp <;> omega) _, ⟨none, 0, (heap_old _ _ (by simp <;> omega)).trans ((heap_old _ _ (by simp)).trans (heap_new _ _)), own_nil _ _ _ _⟩, (heap_old _ _ (by simp)).trans (heap_new' _ _ (by simp)), heap_new' _ _ (by simp)⟩
  case round =>
    intro k x W hk hx hv; have hv2 := hv.put (l' := rec .busy none); have hbl := hv.lp; refine rf_round' hfn hrec hbl rfl ?_; clear hv; have hbl' := Lib.hid hbl; clear hbl
    gi_wp2
    refine ⟨hbl'.out, ?_⟩; obtain ⟨Wb, hWb⟩ : ∃ Wb, Wb = W.putObj (w.heap.size + 2) (.loop (rec .busy none)) := ⟨_, rfl⟩; rw [← hWb] at hv2 ⊢; obtain ⟨h1, ⟨a4, c4, h2, h3⟩, h4, h5⟩ := hv2; have hlb : w.heap.size + 2 < Wb.heap.size := (Array.getElem?_eq_some_iff.1 h5).1; have c1 : Wb.cell? ⟨w.heap.size, 0, none⟩ = some (.slice a4 k c4) := h2.cell rfl; have c2 := h2.frozen 0; have one := one_newI Wb 3 (.int .i64 x)
    have htk : ints .i64 (ls.take k) ++ [.int .i64 x] = ints .i64 (ls.take (k + 1)) := by
      rw [List.take_add_one, hx, ints_append]; rfl
    clear hWb; have one' := Lib.hid one; have h1' := Lib.hid h1; have h2' := Lib.hid h2; have h3' := Lib.hid h3; have h4' := Lib.hid h4; have h5' := Lib.hid h5; have htk' := Lib.hid htk; have hx' := Lib.hid hx; clear one h1 h2 h3 h4 h5 htk hx
    gi_wp2_with (gi_at_builtin; refine wpListIn_append_own _ rfl _ _ 35 rfl (w.heap.size + 3) 3 i0 (.int .i64 0) 1 8 Try.underlying35 hi hz0 hz1 hz2 rfl (by decide) _ k _ rfl (World.ownsRow.alloc h3'.out _) ⟨Wb.heap.size, 0, none⟩ 1 1 [.int .i64 x] rfl rfl one'.out (by simp [Value.oneCell']) (by unfold maxLen; omega) (by omega) (by simp only [World.size_alloc]; omega) ?_; intro v7 w6 hown hgr _; obtain ⟨a7, c7, rfl⟩ := own_sliceI hown; have Hb6 := Lib.hid (below_grown (Below.refl _ _) hgr (by simp only [World.size_alloc]; omega) (World.ownsRow.alloc h3'.out _)); have Hown := Lib.hid hown; have H2 := Lib.hid ((h2'.out.alloc (.cells #[.int .i64 x] 3)).mono Hb6.out (by show w.heap.size < w.heap.size + 3; omega)); have p3 : w6.cell? ⟨w.heap.size, 0, none⟩ = some (.slice a4 k c4) := H2.out.cell rfl; have p4 := H2.out.frozen 0; clear hown hgr)
    obtain ⟨W7, hW7⟩ : ∃ W7, W7 = w6.setCell ⟨w.heap.size, 0, none⟩ (.slice a7 (k + 1) c7) := ⟨_, rfl⟩; rw [← hW7]; have hs6 : ∀ k, k < w.heap.size + 3 → w6.heap[k]? = Wb.heap[k]? := fun k hk => (Hb6.out.block k hk).trans (heap_old _ _ (by omega)); have h7 : ∀ k, k ≠ w.heap.size → W7.heap[k]? = w6.heap[k]? := fun k hk => by rw [hW7]; exact Below.heap_setCell _ _ _ _ hk
    have b7 : Blk W7 w.heap.size 35 #[.slice a7 (k + 1) c7] := by rw [hW7]; exact H2.out.set 0 _
    have o7 : W7.ownsRow (w.heap.size + 3) 3 1 (.slice a7 (k + 1) c7) (k + 1) (ints .i64 (ls.take (k + 1))) := by rw [hW7, ← htk'.out]; exact own_set_other Hown.out (by omega) _ _
    have l7 : W7.heap[w.heap.size + 2]? = some (.loop (rec .busy none)) := ((h7 _ (by omega)).trans (hs6 _ (by omega))).trans h5'.out; have d7 : W7.heap[w.heap.size + 1]? = some (.deferred (some [])) := ((h7 _ (by omega)).trans (hs6 _ (by omega))).trans h4'.out; have hbe : Below w.heap.size w W7 := by rw [hW7]; exact ((h1'.out.alloc (by omega) _).trans (Hb6.out.mono (by omega))).setCell (Nat.le_refl _) _
    exact ⟨l7, rfl, (show Vs w w.heap.size (rec .busy none) ls (k + 1) W7 from ⟨hbe, ⟨a7, c7, b7, o7⟩, d7, l7⟩).put⟩
  case done =>
    rintro e W2 ⟨hv, hz⟩; unfold rfDone; simp only [World.size_alloc, Nat.add_assoc, Nat.reduceAdd]; refine ⟨hv, .ready, none, by decide, hz.lp, ?_⟩
    dsimp only
    have z2 := hz.put (l' := rec .exhausted none); obtain ⟨W3, hW3⟩ : ∃ W3, W3 = W2.putObj (w.heap.size + 2) (.loop (rec .exhausted none)) := ⟨_, rfl⟩; rw [← hW3] at z2 ⊢; obtain ⟨h1, ⟨a4, c4, h2, h3⟩, h4, h5⟩ := z2; rw [List.take_of_length_le (by rw [HL.out]; exact Nat.le_refl _)] at h3; have c1 : W3.cell? ⟨w.heap.size, 0, none⟩ = some (.slice a4 n c4) := h2.cell rfl; have e5 := h4; clear hW3 hz h4 h5; have h1' := Lib.hid h1; have h2' := Lib.hid h2; have h3' := Lib.hid h3; have e5' := Lib.hid e5; clear h1 h2 h3 e5
    gi_wp2
    refine ⟨by simp, .inl ⟨_, _, rfl, run_takeDeferred e5'.out, ?_⟩⟩; have ho : ∀ k, k ≠ w.heap.size + 1 → (W3.putObj (w.heap.size + 1) (.deferred none)).heap[k]? = W3.heap[k]? := fun k hk => World.putObj_heap_other hk; exact ⟨.slice a4 n c4, by simp [results, Try.results230, go_sem], a4, c4, rfl, own_mono (own_above h3'.out (fun k hk _ => ho k (by omega))) (by omega), h1'.out.trans ⟨rfl, rfl, rfl, by simp, fun k hk => ho k (by omega)⟩⟩
end Go.Proofs.Ytpjopeojeglogaa
