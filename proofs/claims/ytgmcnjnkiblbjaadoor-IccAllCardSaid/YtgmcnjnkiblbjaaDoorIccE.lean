import Derived.Test.YtgmcnjnkiblbjaaDoorIccD
import Derived.Test.YtgmcnjnkiblbjaaDoorRange
import Derived.Test.YtgmcnjnkiblbjaaDoorShelf
namespace Go.Proofs.YtgmcnjnkiblbjaaDoor
open Go.RowKit Tt
attribute [local go_sem] Oper.semAt_some
set_option linter.unusedVariables false

theorem parts_any (a : Option Addr) (n c : Nat) (w : World) :
    Calls Tryd.prog 20 #[.slice a n c] w fun e w' => e = .returned (.func (.func 28) #[] #[.pointer (some ⟨w.heap.size, 0, none⟩)]) ∧ w.alloc (.cells #[.slice a n c] 22) = w' := by
  go_enter Tryd.func20, Tryd.ntmps20
  go_wp2
  go_ret
  exact ⟨ret_eq rfl, rfl⟩

theorem Ro.above {w w' : World} {B : Nat} {a : Option Addr} {n c : Nat} {ls : List (List Int)} (h : Ro w B a n c ls) (hk : ∀ k, B ≤ k → k < w.heap.size → w'.heap[k]? = w.heap[k]?) : Ro w' B a n c ls := by
  obtain ⟨⟨vs, h1, h2⟩, h3⟩ := h
  exact ⟨⟨vs, own_above h1 hk, fun i hi => by obtain ⟨a', n', c', e, ho⟩ := h2 i hi; exact ⟨a', n', c', e, own_above ho hk⟩⟩, h3⟩

theorem Ro.low {w : World} {B B' : Nat} {a : Option Addr} {n c : Nat} {ls : List (List Int)} (h : Ro w B a n c ls) (hB : B' ≤ B) : Ro w B' a n c ls := by
  obtain ⟨⟨vs, h1, h2⟩, h3⟩ := h
  exact ⟨⟨vs, own_mono h1 hB, fun i hi => by obtain ⟨a', n', c', e, ho⟩ := h2 i hi; exact ⟨a', n', c', e, own_mono ho hB⟩⟩, h3⟩

/-- What the loop's two sides hold: 'i' rows have been made, the iterator has cut 'j' of them off. N: the first block of the call's own. -/
structure St (w : World) (N : Nat) (p : List Int) (all : Nat) (l : Loop) (i j : Nat) (W : World) : Prop where
  below : Below N w W
  ball : W.heap[N]? = some (.cells #[.int .i64 all] 3)
  bout : ∃ a4 c4, W.heap[N + 1]? = some (.cells #[.slice a4 i c4] 25) ∧ Ro W (N + 5) a4 i c4 ((List.range i).map (chunk p all))
  bb : ∃ ab cb, W.heap[N + 2]? = some (.cells #[.slice ab (p.length - 65519 * j) cb] 22) ∧ Sl w ab (p.length - 65519 * j) cb 1 (ints .u8 (p.drop (65519 * j)))
  bd : W.heap[N + 3]? = some (.deferred (some []))
  bl : W.heap[N + 4]? = some (.loop l)

theorem one_cell {W : World} {b : Nat} {v : Value} {t : TypeId} (h : W.heap[b]? = some (.cells #[v] t)) : W.cell? ⟨b, 0, none⟩ = some v ∧ W.frozen? ⟨b, 0, none⟩ = false := by
  simp [World.cell?, World.frozen?, h]

theorem one_snoc {xs : List Value} (h : ∀ v ∈ xs, v.oneCell' = true) {k : IntKind} {n : Int} : ∀ v ∈ xs ++ [Value.int k n], v.oneCell' = true := by
  intro v hv
  rcases List.mem_append.1 hv with h1 | h1
  · exact h v h1
  · rw [List.mem_singleton.1 h1]; rfl

set_option maxHeartbeats 400000 in
theorem bytes_any (T : TypeId) (B b : Nat) (bs : List Value) (w : World) (h : LibA.IsBuffer T (fun _ => none) 5 B b 0 bs w) (h0 : bs ≠ []) :
    Calls Tryd.prog 24 #[.pointer (some ⟨b, 0, none⟩)] w fun e w' => ∃ a c, e = .returned (.slice a bs.length c) ∧ w.ownsRow B 5 1 (.slice a bs.length c) bs.length bs ∧ Qt w w' := by
  obtain ⟨hB, lr, hc⟩ := h.cases
  rcases hc with ⟨rfl, _⟩ | ⟨g, cap, cur, h3, hg, hh, hle, hcm, hcs, htk, hne⟩
  · exact absurd rfl h0
  · have e0 := h3.c0
    have e1 := h3.c1
    have hl : 0 < bs.length := List.length_pos_iff.2 h0
    have hown : w.ownsRow B 5 1 (.slice (some ⟨g, 0, none⟩) bs.length cap) bs.length bs := ⟨by simp, .inr ⟨g, cap, cur, rfl, hg, hh, hle, hcm, by simpa using hcs, by simpa using htk⟩⟩
    have hcap : ¬ cap = 0 := by omega
    unfold maxLen at hcm
    have Hown := Lib.hid hown
    clear hown h3 h0 hne hh htk hcs h
    generalize bs.length = n at *
    go_enter Tryd.func24, Tryd.ntmps24
    go_wp2
    go_quiet (fail)
    go_wp2
    go_ret
    exact ⟨_, _, ret_eq rfl, Hown.out, (Qt.refl w).step _⟩

theorem take_min (x : List Int) (m : Nat) (h : m = min x.length 65519) : x.take m = x.take 65519 := by
  rcases Nat.le_total x.length 65519 with h1 | h1
  · rw [List.take_of_length_le (by omega), List.take_of_length_le h1]
  · rw [show m = 65519 by omega]
theorem drop_same {w : World} {a : Option Addr} {n c k m : Nat} {p : List Int} (h : Sl w a n c 1 (ints .u8 (p.drop (65519 * k + m)))) (hm : m = min (p.length - 65519 * k) 65519) (hn : n = p.length - 65519 * (k + 1)) : Sl w a (p.length - 65519 * (k + 1)) c 1 (ints .u8 (p.drop (65519 * (k + 1)))) := by
  have : p.drop (65519 * k + m) = p.drop (65519 * (k + 1)) := by
    rcases Nat.le_total (65519 * (k + 1)) p.length with h1 | h1
    · rw [show 65519 * k + m = 65519 * (k + 1) by omega]
    · rw [List.drop_of_length_le (by omega), List.drop_of_length_le h1]
  rw [this, hn] at h
  exact h
theorem St.step {w : World} {N : Nat} {p : List Int} {all : Nat} {l : Loop} {k : Nat} {W : World} (h : St w N p all l (k + 1) k W) (a : Option Addr) (c : Nat) {n : Nat} (hn : n = p.length - 65519 * (k + 1)) (hs : Sl w a (p.length - 65519 * (k + 1)) c 1 (ints .u8 (p.drop (65519 * (k + 1))))) :
    St w N p all l (k + 1) (k + 1) (W.setCell ⟨N + 2, 0, none⟩ (.slice a n c)) := by
  obtain ⟨h1, h2, h3, ⟨ab, cb, h4, _⟩, h5, h6⟩ := h
  have ho : ∀ k, k ≠ N + 2 → (W.setCell ⟨N + 2, 0, none⟩ (.slice a n c)).heap[k]? = W.heap[k]? := fun k hk => Below.heap_setCell _ _ _ _ hk
  have hb : Below N w (W.setCell ⟨N + 2, 0, none⟩ (.slice a n c)) := h1.setCell (p := ⟨N + 2, 0, none⟩) (Nat.le_add_right _ _) _
  have h4' := Boxed.set (.slice a n c) h4
  rw [← hn] at hs
  generalize W.setCell ⟨N + 2, 0, none⟩ (.slice a n c) = W' at *
  refine ⟨hb, (ho N (by omega)).trans h2, ?_, ?_, (ho _ (by omega)).trans h5, (ho _ (by omega)).trans h6⟩
  · obtain ⟨a4, c4, h3, h3'⟩ := h3
    exact ⟨a4, c4, (ho _ (by omega)).trans h3, h3'.above (fun k hk _ => ho k (by omega))⟩
  · rw [← hn]
    exact ⟨a, c, h4', hs⟩

theorem one_new (w : World) (E : TypeId) (v : Value) : ∀ j u, [v][j]? = some u → (w.alloc (.cells #[v] E)).cell? ((⟨w.heap.size, 0, none⟩ : Addr).add j) = some u := by
  intro j u hj
  have hs := (Sl.new w E 1 1 #[v] (0, 0) (by decide) rfl).lies 0 (by decide)
  obtain ⟨b, o, e, _, hc⟩ := hs
  injection e with e
  injection e with e1 e2 e3
  subst e1 e2
  rw [Addr.add_lit]
  exact hc j u hj

theorem St.next {w Wb w6 : World} {N : Nat} {p : List Int} {all k : Nat} {l lb : Loop} {a7 : Option Addr} {c7 : Nat} {v : Value}
    (hall : Wb.heap[N]? = some (.cells #[.int .i64 all] 3)) (hout : Wb.heap[N + 1]? = some (.cells #[v] 25))
    (hbb : ∃ ab cb, Wb.heap[N + 2]? = some (.cells #[.slice ab (p.length - 65519 * k) cb] 22) ∧ Sl w ab (p.length - 65519 * k) cb 1 (ints .u8 (p.drop (65519 * k))))
    (hdf : Wb.heap[N + 3]? = some (.deferred (some []))) (hl : Wb.heap[N + 4]? = some (.loop lb)) (h6 : ∀ k, k < N + 5 → w6.heap[k]? = Wb.heap[k]?) (b6 : Below N w w6) (hN : N = w.heap.size)
    (ro : Ro w6 (N + 5) a7 (k + 1) c7 ((List.range (k + 1)).map (chunk p all))) :
    (w6.setCell ⟨N + 1, 0, none⟩ (.slice a7 (k + 1) c7)).heap[N + 4]? = some (.loop lb) ∧ St w N p all l (k + 1) k ((w6.setCell ⟨N + 1, 0, none⟩ (.slice a7 (k + 1) c7)).putObj (N + 4) (.loop l)) := by
  have e1 := (h6 (N + 1) (by omega)).trans hout
  have e4 := (h6 (N + 4) (by omega)).trans hl
  have ho : ∀ k, k ≠ N + 1 → (w6.setCell ⟨N + 1, 0, none⟩ (.slice a7 (k + 1) c7)).heap[k]? = w6.heap[k]? := fun k hk => Below.heap_setCell _ _ _ _ hk
  have ho1 : ∀ j, j ≠ N + 1 → (w6.setCell ⟨N + 1, 0, none⟩ (.slice a7 (k + 1) c7)).heap[j]? = w6.heap[j]? := fun j hj => Below.heap_setCell _ _ _ _ hj
  have hs1 : (w6.setCell ⟨N + 1, 0, none⟩ (.slice a7 (k + 1) c7)).heap[N + 1]? = some (.cells #[.slice a7 (k + 1) c7] 25) := Boxed.set _ e1
  have hb7 : Below N w (w6.setCell ⟨N + 1, 0, none⟩ (.slice a7 (k + 1) c7)) := b6.setCell (p := ⟨N + 1, 0, none⟩) (Nat.le_add_right _ _) _
  generalize w6.setCell ⟨N + 1, 0, none⟩ (.slice a7 (k + 1) c7) = W7 at *
  have e5 := (ho1 (N + 4) (by omega)).trans e4
  have hp : ∀ j, j ≠ N + 4 → (W7.putObj (N + 4) (.loop l)).heap[j]? = W7.heap[j]? := fun j hj => World.putObj_heap_other hj
  have hb8 : Below N w (W7.putObj (N + 4) (.loop l)) := hb7.trans ⟨rfl, rfl, rfl, by simp, fun j hj => hp j (by omega)⟩
  refine ⟨e5, hb8, ?_, ⟨a7, c7, (hp _ (by omega)).trans hs1, ro.above (fun j hj _ => (hp j (by omega)).trans (ho1 j (by omega)))⟩, ?_, ?_, World.putObj_heap_same (Array.getElem?_eq_some_iff.1 e5).1⟩
  · exact (hp _ (by omega)).trans ((ho1 _ (by omega)).trans ((h6 _ (by omega)).trans hall))
  · obtain ⟨x, y, h7, h8⟩ := hbb
    exact ⟨x, y, (hp _ (by omega)).trans ((ho1 _ (by omega)).trans ((h6 _ (by omega)).trans h7)), h8⟩
  · exact (hp _ (by omega)).trans ((ho1 _ (by omega)).trans ((h6 _ (by omega)).trans hdf))

/-- how long what the box holds is -/
def boxLen (b : Nat) (W : World) : Nat := match W.cell? ⟨b, 0, none⟩ with | some (.slice _ n _) => n | _ => 0

theorem cut_hm {P : Program} {T E : TypeId} {sz : Nat} (ht : P.underlying T = some (.slice E)) (hE : ∀ w, (Go.sizeOf E).run P w = .ok sz w) {w : World} {a : Option Addr} {n c : Nat} {cs : List Value} (h : Sl w a n c sz cs) (hi : Int) (h1 : 0 ≤ hi) (h2 : hi ≤ n) (n2 : Nat) (hn2 : (n2 : Int) = hi) :
    ∃ a2, (∀ W, (Instr.sliceAt T (.slice a n c) none (some (.int .i64 hi)) (some (.int .i64 hi))).run P W = .ok (.slice a2 n2 n2) W) ∧ Sl w a2 n2 n2 sz (cs.take (n2 * sz)) := by
  have he : P.elem T = E := by unfold Program.elem; rw [ht]
  have hle := h.le
  have hm := h.max
  have hs : Sl w (if n2 = 0 then a else a.map (·.add 0)) n2 n2 sz (cs.take (n2 * sz)) := by
    have hs := sl_sub h 0 n2 (by omega) (by omega) n2 c (by omega) (by omega)
    rw [Nat.zero_mul, List.drop_zero] at hs
    refine ⟨hs.len, Nat.le_refl _, by omega, fun i hi => ?_, fun he => ?_⟩
    · have := hs.lies i hi
      rw [if_neg (by omega)] at this ⊢
      exact this
    · split at he
      · assumption
      · cases a with
        | none => have := h.fit rfl; omega
        | some y => cases he
  refine ⟨_, fun W => ?_, hs⟩
  rw [run_sliceAt_slice (h := by rw [he]; exact ht), run_slice_hm (ht := by rw [he]; exact ht) (h0 := h1) (h2 := Int.le_refl _) (h3 := by omega), he, hE]
  simp only [Result.andThen, sliced, Nat.zero_mul, Nat.sub_zero]
  rw [show hi.toNat = n2 by omega]

set_option maxRecDepth 100000 in
set_option maxHeartbeats 1000000 in
theorem parts1_in (w : World) (N : Nat) (p : List Int) (all : Nat) (l : Loop) (hN : N = w.heap.size) (hal : all = cntN p.length) (hlim : p.length ≤ 9223372036854775807)
    (hround : ∀ k ab m W, St w N p all l k k W → k < all → m = min (p.length - 65519 * k) 65519 → Sl w ab m m 1 (ints .u8 ((p.drop (65519 * k)).take 65519)) →
      YieldAt Fence.wide 8 Tryd.prog (N + 4) #[.slice ab m m] W fun e W' => e = .returned (.bool true) ∧ St w N p all l (k + 1) k W')
    (W : World) (h0 : St w N p all l 0 0 W) :
    CallsIn Fence.wide 9 Tryd.prog 28 #[.func (.yield (N + 4)) #[] #[], .pointer (some ⟨N + 2, 0, none⟩)] W fun e W' => (∃ v, e = .returned v) ∧ St w N p all l all all W' := by
  have Hround := Lib.hid hround
  have Hal := Lib.hid hal
  have HN := Lib.hid hN
  clear hround hal hN
  refine callsIn_of_wp Tryd.func28 rfl trivial ?_ rfl
  simp only [Tryd.ntmps28, List.size_toArray, List.length_cons, List.length_nil, Nat.reduceAdd, Nat.reduceSub, Array.replicate_succ, Array.replicate_zero, List.push_toArray, List.append_toArray, List.nil_append, List.cons_append]
  gi_wp2
  gi_loopw [3] (fun v wr => ∃ k : Nat, k ≤ all ∧ Hid (St w N p all l k k wr)) (fun v wr => boxLen (N + 2) wr)
  case atStart => exact ⟨0, Nat.zero_le _, Lib.hid h0⟩
  case round =>
    obtain ⟨k, hk, hs⟩ := hrel
    obtain ⟨ab, cb, hbb, hsl⟩ := hs.out.bb
    obtain ⟨hc, hf⟩ := one_cell hbb
    have hml : boxLen (N + 2) wr = p.length - 65519 * k := by unfold boxLen; rw [hc]
    have Hml := Lib.hid hml
    have Hbb := Lib.hid hbb
    clear hbb hml
    have hle := hsl.le
    have hmx := hsl.max
    have hLe : (p.length - 65519 * k) ≤ p.length := Nat.sub_le _ _
    have hkey := @cntN_lt p.length k
    rw [← Hal.out] at hkey
    have hkl : k < all ↔ 0 < p.length - 65519 * k := by rw [hkey]; omega
    clear hkey
    generalize hL : p.length - 65519 * k = L at hc hsl hle hmx Hml hLe hkl
    have HL := Lib.hid hL
    have Hkl := Lib.hid hkl
    clear hL hkl
    by_cases hlt : k < all
    · have hL0 := Hkl.out.1 hlt
      by_cases hmn : 65519 < L
      · have hmin : min (L : Int) 65519 = 65519 := by omega
        have hm2 : 65519 = min (p.length - 65519 * k) 65519 := by rw [HL.out]; omega
        obtain ⟨a2, hcut1, hs2⟩ := cut_hm (P := Tryd.prog) Tryd.underlying22 size5 hsl 65519 (by omega) (by omega) (65519) rfl
        have hs3 : Sl w a2 (65519) (65519) 1 (ints .u8 ((p.drop (65519 * k)).take 65519)) := by
          rw [← take_min (p.drop (65519 * k)) (65519) (by rw [List.length_drop]; exact hm2), ints, List.map_take]
          rw [Nat.mul_one] at hs2
          exact hs2
        have hY := Hround.out k a2 (65519) wr hs.out hlt hm2 hs3
        have Hm2 := Lib.hid hm2
        clear hs2 hs3 hm2
        obtain ⟨fn, tmps, assign, body, hy, hR⟩ := hY
        have HR := Lib.hid hR
        clear hR
        gi_wp2
        refine HR.out.mono ?_
        rintro e W3 ⟨rfl, hs4⟩
        have Hs4 := Lib.hid hs4
        clear hs4 hc hf hy
        obtain ⟨ab3, cb3, hbb3, hsl3⟩ := Hs4.out.bb
        obtain ⟨hc3, hf3⟩ := one_cell hbb3
        have Hbb3 := Lib.hid hbb3
        clear hbb3
        rw [HL.out] at hc3 hsl3
        have hle3 := hsl3.le
        have hmx3 := hsl3.max
        obtain ⟨a5, hcut2, hs5⟩ := cut_l (P := Tryd.prog) Tryd.underlying22 size5 hsl3 65519 (by omega) (by omega) (L - (65519)) (cb3 - (65519)) (by omega) (by omega)
        have Hs5 := Lib.hid hs5
        clear hs5
        gi_wp2
        have hlen : L - (65519) = p.length - 65519 * (k + 1) := by have := HL.out; omega
        have hst : St w N p all l (k + 1) (k + 1) (W3.setCell ⟨N + 2, 0, none⟩ (.slice a5 (L - (65519)) (cb3 - (65519)))) := by
          refine Hs4.out.step a5 (cb3 - (65519)) ?_ ?_
          · exact hlen
          · have := Hs5.out
            rw [Nat.mul_one, show (65519 : Int).toNat = 65519 from rfl, ints, ← List.map_drop, List.drop_drop] at this
            refine drop_same this (by rw [HL.out]; omega) hlen
        have hbl : boxLen (N + 2) (W3.setCell ⟨N + 2, 0, none⟩ (.slice a5 (L - (65519)) (cb3 - (65519)))) = L - (65519) := by
          obtain ⟨x, y, hb5, _⟩ := hst.bb
          obtain ⟨hc5, _⟩ := one_cell hb5
          unfold boxLen
          rw [hc5]
          exact hlen.symm
        have hlt2 : L - (65519) < L := by omega
        have Hbl := Lib.hid hbl
        have Hst := Lib.hid hst
        clear hbl hst hlen
        go_roundw
        case rel => exact ⟨k + 1, by omega, Hst⟩
        case measure => rw [Hbl.out, Hml.out]; exact hlt2
      · have hmin : min (L : Int) 65519 = L := by omega
        have hm2 : L = min (p.length - 65519 * k) 65519 := by rw [HL.out]; omega
        obtain ⟨a2, hcut1, hs2⟩ := cut_hm (P := Tryd.prog) Tryd.underlying22 size5 hsl (L : Int) (by omega) (by omega) (L) rfl
        have hs3 : Sl w a2 (L) (L) 1 (ints .u8 ((p.drop (65519 * k)).take 65519)) := by
          rw [← take_min (p.drop (65519 * k)) (L) (by rw [List.length_drop]; exact hm2), ints, List.map_take]
          rw [Nat.mul_one] at hs2
          exact hs2
        have hY := Hround.out k a2 (L) wr hs.out hlt hm2 hs3
        have Hm2 := Lib.hid hm2
        clear hs2 hs3 hm2
        obtain ⟨fn, tmps, assign, body, hy, hR⟩ := hY
        have HR := Lib.hid hR
        clear hR
        gi_wp2
        refine HR.out.mono ?_
        rintro e W3 ⟨rfl, hs4⟩
        have Hs4 := Lib.hid hs4
        clear hs4 hc hf hy
        obtain ⟨ab3, cb3, hbb3, hsl3⟩ := Hs4.out.bb
        obtain ⟨hc3, hf3⟩ := one_cell hbb3
        have Hbb3 := Lib.hid hbb3
        clear hbb3
        rw [HL.out] at hc3 hsl3
        have hle3 := hsl3.le
        have hmx3 := hsl3.max
        obtain ⟨a5, hcut2, hs5⟩ := cut_l (P := Tryd.prog) Tryd.underlying22 size5 hsl3 (L : Int) (by omega) (by omega) 0 (cb3 - (L)) (by omega) (by omega)
        have Hs5 := Lib.hid hs5
        clear hs5
        gi_wp2
        have hlen : 0 = p.length - 65519 * (k + 1) := by have := HL.out; omega
        have hst : St w N p all l (k + 1) (k + 1) (W3.setCell ⟨N + 2, 0, none⟩ (.slice a5 0 (cb3 - (L)))) := by
          refine Hs4.out.step a5 (cb3 - (L)) ?_ ?_
          · exact hlen
          · have := Hs5.out
            rw [Nat.mul_one, Int.toNat_natCast, ints, ← List.map_drop, List.drop_drop] at this
            refine drop_same this (by rw [HL.out]; omega) hlen
        have hbl : boxLen (N + 2) (W3.setCell ⟨N + 2, 0, none⟩ (.slice a5 0 (cb3 - (L)))) = 0 := by
          obtain ⟨x, y, hb5, _⟩ := hst.bb
          obtain ⟨hc5, _⟩ := one_cell hb5
          unfold boxLen
          rw [hc5]
          exact hlen.symm
        have hlt2 : 0 < L := by omega
        have Hbl := Lib.hid hbl
        have Hst := Lib.hid hst
        clear hbl hst hlen
        go_roundw
        case rel => exact ⟨k + 1, by omega, Hst⟩
        case measure => rw [Hbl.out, Hml.out]; exact hlt2
    · have hL0 : L = 0 := by have := Hkl.out; omega
      have hg : ((0 : Int) < (L : Int)) = False := by rw [hL0]; simp
      subst hL0
      gi_wp2
      go_end0
      have hke : k = all := by omega
      subst hke
      exact ⟨⟨_, rfl⟩, hs.out⟩

set_option maxRecDepth 100000 in
set_option maxHeartbeats 2000000 in
theorem cut_any (a : Option Addr) (n c : Nat) (p : List Int) (w : World) (hx : Sl w a n c 1 (ints .u8 p)) (bp : Byt p) (hb9 : n ≤ 140737488355328) :
    Calls Tryd.prog 9 #[.slice a n c] w (Cutted w p) := by
  have hxl := hx.ilen
  have hm := hx.max
  have hle := hx.le
  have hcn := cnt_nat n
  have Hx := Lib.hid hxl
  clear hxl
  have hC := count_any n
  rw [hcn] at hC
  have HC := Lib.hid hC
  clear hcn hC
  have Hlt := Lib.hid (fun i => @cntN_lt n i)
  have hcb : cntN n ≤ n := by unfold cntN; split <;> omega
  have Hp : Hid (cntN p.length = cntN n) := by rw [Hx.out]; exact Lib.hid rfl
  generalize hal : cntN n = all at *
  by_cases h255 : all ≤ 255
  · have hd : decide ((255 : Int) < all) = false := by simp; omega
    have Hcut := Lib.hid (@cutS_ok p (by rw [Hp.out]; exact h255))
    clear hal
    refine (callsIn_wide (n := 10)).1 ?_
    refine callsIn_of_wp_marks Tryd.func9 rfl trivial ?_ rfl
    simp only [Tryd.ntmps9, List.size_toArray, List.length_cons, List.length_nil, Nat.reduceAdd, Nat.reduceSub, Array.replicate_succ, Array.replicate_zero, List.push_toArray, List.append_toArray, List.nil_append, List.cons_append]
    gi_wp2_with (first | (refine ⟨trivial, ?_⟩; gi_at_call 15; refine (callsIn_wide.2 (HC.out _ (by omega))).mono ?_; rintro e w' ⟨rfl, rfl⟩) | (refine ⟨trivial, ?_⟩; gi_at_call 20; refine (callsIn_wide.2 (parts_any _ _ _ _)).mono ?_; rintro e w' ⟨rfl, rfl⟩))
    refine rf_law' rfl (by omega) rfl trivial (enters_of Tryd.func28 (by kernel_rfl) rfl) ?_
    intro fn rec hfn hrec
    simp only [World.size_alloc, Nat.add_assoc, Nat.reduceAdd]
    refine CallsIn.mono (parts1_in w w.heap.size p all (rec .ready none) rfl (by rw [Hp.out]) (by rw [Hx.out]; omega) ?round _ ?init) ?done
    case init =>
      refine ⟨?_, ?_, ⟨none, 0, ?_, Ro.nil _ _⟩, ⟨a, c, ?_, ?_⟩, ?_, heap_new' _ _ (by simp)⟩
      · exact (((((Below.refl _ _).alloc (Nat.le_refl _) _).alloc (by simp) _).alloc (by simp; omega) _).alloc (by simp; omega) _).alloc (by simp; omega) _
      · rw [heap_old _ _ (by simp <;> omega), heap_old _ _ (by simp <;> omega), heap_old _ _ (by simp <;> omega), heap_old _ _ (by simp)]
        exact heap_new _ _
      · rw [heap_old _ _ (by simp <;> omega), heap_old _ _ (by simp <;> omega), heap_old _ _ (by simp)]
        exact heap_new' _ _ (by simp)
      · rw [heap_old _ _ (by simp <;> omega), heap_old _ _ (by simp)]
        rw [Nat.mul_zero, Nat.sub_zero, Hx.out]
        exact heap_new' _ _ (by simp)
      · rw [Nat.mul_zero, Nat.sub_zero, Hx.out]
        exact hx
      · rw [heap_old _ _ (by simp)]
        exact heap_new' _ _ (by simp)
    case round =>
      rintro k ab m W hst hk hm2 hs
      have hm3 : m ≤ 65519 := by omega
      have hm4 : 0 < m := by
        have := cntN_lt.1 (show k < cntN p.length by rw [Hp.out]; exact hk)
        omega
      clear hm2
      refine rf_round' hfn hrec hst.bl rfl ?_
      gi_wp2
      refine ⟨hst.bl, ?_⟩
      obtain ⟨h1, h2, ⟨a4, c4, h3, hro⟩, h4, h5, h6⟩ := hst
      have hlt4 := (Array.getElem?_eq_some_iff.1 h6).1
      obtain ⟨Wb, hWb⟩ : ∃ Wb, Wb = W.putObj (w.heap.size + 4) (.loop (rec .busy none)) := ⟨_, rfl⟩
      have hl : Wb.heap[w.heap.size + 4]? = some (.loop (rec .busy none)) := by rw [hWb]; exact World.putObj_heap_same hlt4
      have ho : ∀ k, k ≠ w.heap.size + 4 → Wb.heap[k]? = W.heap[k]? := fun k hk => by rw [hWb]; exact World.putObj_heap_other hk
      have hbel : Below w.heap.size w Wb := by rw [hWb]; exact h1.trans ⟨rfl, rfl, rfl, by simp, fun k hk => World.putObj_heap_other (by omega)⟩
      rw [← hWb]
      have hall := (ho _ (by omega)).trans h2
      have hout := (ho _ (by omega)).trans h3
      have hdf := (ho _ (by omega)).trans h5
      have hbb : ∃ ab cb, Wb.heap[w.heap.size + 2]? = some (.cells #[.slice ab (p.length - 65519 * k) cb] 22) ∧ Sl w ab (p.length - 65519 * k) cb 1 (ints .u8 (p.drop (65519 * k))) := by
        obtain ⟨x, y, h7, h8⟩ := h4
        exact ⟨x, y, (ho _ (by omega)).trans h7, h8⟩
      have hrow := hro.above (w' := Wb) (fun k hk _ => ho k (by omega))
      have hsz : w.heap.size + 4 < Wb.heap.size := (Array.getElem?_eq_some_iff.1 hl).1
      have hs' := hs.mono hbel
      have hml := hs.ilen
      have hcm : (hd' : List Int) → hd' = Tt.hd → chunk p all k = hd' ++ [(k : Int) + 1] ++ [(all : Int)] ++ (p.drop (65519 * k)).take 65519 := by
        intro _ e; rw [e]; simp [chunk]
      have Hcm := Lib.hid (hcm _ rfl)
      have Hrow := Lib.hid hrow
      have Hall := Lib.hid hall
      have Hout := Lib.hid hout
      have Hdf := Lib.hid hdf
      have Hbb := Lib.hid hbb
      have Hl := Lib.hid hl
      have c1 := one_cell hall
      have c2 := one_cell hout
      have Hs := Lib.hid hs'
      clear hcm hs' hrow hbb hdf hout hall ho hWb h1 h2 h3 hro h4 h5 h6 hlt4 hl hrec
      generalize (p.drop (65519 * k)).take 65519 = part at *
      obtain ⟨b', o', rfl, hbx, cx⟩ := Hs.out.at hm4
      have hpart : ∀ j v, (ints .u8 part)[j]? = some v → Wb.cell? ((⟨b', o', none⟩ : Addr).add j) = some v := fun j v hj => by rw [Addr.add_lit]; exact cx j v hj
      have Hpart := Lib.hid hpart
      clear hpart cx hs
      have hz : LibA.IsBuffer 48 (fun _ => none) 5 Wb.heap.size Wb.heap.size 0 [] (Wb.alloc (.cells #[.slice none 0 0, .int .i64 0, .int .i8 0] 48)) := LibA.zero_isBuffer (Nat.le_refl _) (LibA.three_whole (heap_new _ _))
      gi_wp2_with fail
      refine ⟨trivial, ?_⟩
      refine CallsIn.mono (CallsIn.inRound _ (callsIn_wide.2 (Tryd.Buffer_WriteString_at 48 (fun _ => none) Wb.heap.size Wb.heap.size 0 [] _ _ hz (by simp) (by simp) (by decide)))) ?_
      rintro e w1 ⟨rfl, hI1, hb1, -⟩
      have hJ1 : LibA.IsBuffer 48 (fun _ => none) 5 Wb.heap.size Wb.heap.size 0 (ints .u8 Tt.hd) w1 := hI1
      have hW1 : Below Wb.heap.size Wb w1 := ((Below.refl _ _).alloc (Nat.le_refl _) _).trans hb1
      have d1 := (hW1.cell (p := ⟨w.heap.size + 1, 0, none⟩) (by simp; omega)).trans c2.1
      clear hI1 hb1 hz
      gi_wp2_with fail
      refine ⟨trivial, ?_⟩
      refine CallsIn.mono (CallsIn.inRound _ (callsIn_wide.2 (Tryd.Buffer_WriteByte_at 48 (fun _ => none) Wb.heap.size Wb.heap.size 0 (ints .u8 Tt.hd) ((k : Int) + 1) w1 hJ1 hW1.size ints_one (by decide)))) ?_
      rintro e w2 ⟨rfl, hI2, hb2, -⟩
      have hW2 := hW1.trans hb2
      have d2 := (hW2.cell (p := ⟨w.heap.size, 0, none⟩) (by simp; omega)).trans c1.1
      clear d1 hJ1 hW1 hb2
      gi_wp2_with fail
      refine ⟨trivial, ?_⟩
      refine CallsIn.mono (CallsIn.inRound _ (callsIn_wide.2 (Tryd.Buffer_WriteByte_at 48 (fun _ => none) Wb.heap.size Wb.heap.size 0 _ (all : Int) w2 hI2 hW2.size (one_snoc ints_one) (by simp [ints, Tt.hd])))) ?_
      rintro e w3 ⟨rfl, hI3, hb3, -⟩
      have hW3 := hW2.trans hb3
      clear d2 hI2 hW2 hb3
      gi_wp2_with fail
      refine ⟨trivial, ?_⟩
      refine CallsIn.mono (CallsIn.inRound _ (callsIn_wide.2 (Tryd.Buffer_Write_at 48 (fun _ => none) Wb.heap.size Wb.heap.size 0 _ (ints .u8 part) ⟨b', o', none⟩ m m w3 hI3 hW3.size (one_snoc (one_snoc ints_one)) (by rw [ints_len]; exact hml) (by simp; omega) (fun j v hj => by rw [Addr.add_lit]; rw [hW3.cell (p := ⟨b', o' + j, none⟩) hbx]; have := Hpart.out j v hj; rw [Addr.add_lit] at this; exact this) ints_one (by simp [ints, Tt.hd]; omega)))) ?_
      rintro e w4 ⟨rfl, hI4, hb4, -⟩
      have hW4 := hW3.trans hb4
      have hJ4 : LibA.IsBuffer 48 (fun _ => none) 5 Wb.heap.size Wb.heap.size 0 (ints .u8 (chunk p all k)) w4 := by
        rw [Hcm.out]
        simpa [ints] using hI4
      clear hI3 hI4 hW3 hb4
      have d4 := (hW4.cell (p := ⟨w.heap.size + 1, 0, none⟩) (by simp; omega)).trans c2.1
      have d5 := (hW4.frozen (p := ⟨w.heap.size + 1, 0, none⟩) (by simp; omega)).trans c2.2
      gi_wp2_with fail
      have hne4 : ints .u8 (chunk p all k) ≠ [] := by rw [Hcm.out]; simp [ints]
      obtain ⟨⟨vs, hv1, hv2⟩, hv3⟩ := Hrow.out
      have W5 : ∀ nq, Below Wb.heap.size Wb (w4.drewN (1 + nq)) := fun nq => hW4.trans ⟨rfl, rfl, rfl, Nat.le_refl _, fun _ _ => rfl⟩
      have V4 : ∀ nq, (w4.drewN (1 + nq)).ownsRow (w.heap.size + 5) 22 1 (.slice a4 k c4) k vs := fun nq => own_later hv1 (W5 nq)
      have V2 := Lib.hid hv2
      have V3 := Lib.hid hv3
      have d6 : w4.drew.cell? ⟨w.heap.size + 1, 0, none⟩ = some (.slice a4 k c4) := d4
      have d8 : ∀ nq, (w4.drewN (1 + nq)).cell? ⟨w.heap.size + 1, 0, none⟩ = some (.slice a4 k c4) := fun _ => d4
      have d10 : ∀ nq, (w4.drewN (1 + nq)).frozen? ⟨w.heap.size + 1, 0, none⟩ = false := fun _ => d5
      have lt4 : ∀ nq, (⟨w.heap.size + 1, 0, none⟩ : Addr).block < (w4.drewN (1 + nq)).heap.size := fun nq => by have := hW4.size; simp; omega
      have d11 : ∀ nq o, ((w4.drewN (1 + nq)).alloc o).cell? ⟨w.heap.size + 1, 0, none⟩ = some (.slice a4 k c4) := fun nq o => late ((Below.refl _ _).alloc (Nat.le_refl _) _) (lt4 nq) (d8 nq)
      obtain ⟨j0, hj, hy0, hy1, hy2⟩ := info_parts info25
      clear hv1 hv2 hv3
      refine wpIn_region_any (by kernel_rfl) ?_
      change wpAnyIn _ _ _ _ _ _ _ _ _ (World.drew _)
      refine wpAnyIn_ready (rs := [0, 1]) (by kernel_rfl) (by simp) ?_
      refine AllReadyIn.cons rfl (fun K hK => ?_) ?_
      · go_simp
        refine hK _ _ ?_
        clear hK K
        refine wpAnyIn_ready (rs := [1]) (by kernel_rfl) (by simp) ?_
        refine AllReadyIn.cons rfl (fun K hK => ?_) ?_
        · go_simp
          refine hK _ _ ?_
          clear hK K
          refine wpAnyIn_ready (rs := [2]) (by kernel_rfl) (by simp) ?_
          refine AllReadyIn.cons rfl (fun K hK => ?_) ?_
          · go_simp
            refine ⟨trivial, CallsIn.mono (CallsIn.inRound _ (callsIn_wide.2 (bytes_any 48 Wb.heap.size Wb.heap.size _ w4.drew hJ4 hne4))) ?_⟩
            rintro e w5 ⟨a5, c5, rfl, ho5, nq, rfl⟩
            rw [World.drewN_drew]
            refine hK _ _ ?_
            clear hK K
            refine wpAnyIn_ready (rs := [3]) (by kernel_rfl) (by simp) ?_
            refine AllReadyIn.cons rfl (fun K hK => ?_) ?_
            · go_simp
              refine hK _ _ ?_
              clear hK K
              refine wpAnyIn_ready (rs := [4]) (by kernel_rfl) (by simp) ?_
              refine AllReadyIn.cons rfl (fun K hK => ?_) ?_
              · refine stepIn_app rfl _ _ 25 rfl (w.heap.size + 5) 22 j0 _ 1 24 Tryd.underlying25 hj hy0 hy1 hy2 rfl (by decide) _ k vs rfl (World.ownsRow.alloc (V4 nq) _) _ 1 1 [.slice a5 _ c5] rfl rfl (one_new (w4.drewN (1 + nq)) 22 _) (by simp [Value.oneCell']) (by omega) (by omega) (by decide) (by have := hW4.size; simp; omega) ?_
                intro a7 c7 w6 od hb6 hg6
                have d7 := (hb6.cell (p := ⟨w.heap.size + 1, 0, none⟩) (by simp)).trans (late ((Below.refl _ _).alloc (Nat.le_refl _) _) (lt4 nq) (d8 nq))
                have d9 := (hb6.frozen (p := ⟨w.heap.size + 1, 0, none⟩) (by simp)).trans ((((Below.refl (w4.drewN (1 + nq)).heap.size _).alloc (Nat.le_refl _) _).frozen (p := ⟨w.heap.size + 1, 0, none⟩) (lt4 nq)).trans (d10 nq))
                refine hK _ _ ?_
                clear hK K
                refine wpAnyIn_ready (rs := [5]) (by kernel_rfl) (by simp) ?_
                refine AllReadyIn.cons rfl (fun K hK => ?_) ?_
                · go_simp
                  refine hK _ _ ?_
                  clear hK K
                  refine wpAnyIn_done (by kernel_rfl) ?_ _
                  have hpush := Ro.push (ls := (List.range k).map (chunk p all)) (World.ownsRow.alloc (V4 nq) _) (fun i hi => by obtain ⟨x1, x2, x3, x4, x5⟩ := V2.out i hi; exact ⟨x1, x2, x3, x4, World.ownsRow.alloc (w := w4.drewN (1 + nq)) (own_later x5 (W5 nq)) _⟩) V3.out (own_mono (World.ownsRow.alloc (w := w4.drewN (1 + nq)) (own_later ho5 ⟨rfl, rfl, rfl, Nat.le_refl _, fun _ _ => rfl⟩) _) (by omega)) od hg6
                  have hfin := St.next (l := rec .ready none) Hall.out Hout.out Hbb.out Hdf.out Hl.out (w6 := w6) (fun j hj => (hb6.block j hj).trans (((Below.refl (w4.drewN (1 + nq)).heap.size _).alloc (Nat.le_refl _) _).block j (by have := hW4.size; simp; omega) |>.trans (hW4.block j (by omega)))) ((hbel.trans ((W5 nq).mono (by omega))).alloc (by have := (W5 nq).size; omega) _ |>.trans (hb6.mono (by omega))) rfl (by rw [List.range_succ, List.map_append]; exact hpush)
                  exact ⟨hfin.1, rfl, hfin.2⟩
                exact AllReadyIn.nil
              exact AllReadyIn.nil
            exact AllReadyIn.nil
          exact AllReadyIn.nil
        exact AllReadyIn.nil
      refine AllReadyIn.cons rfl (fun K hK => ?_) ?_
      · go_simp
        refine hK _ _ ?_
        clear hK K
        refine wpAnyIn_ready (rs := [0, 2]) (by kernel_rfl) (by simp) ?_
        refine AllReadyIn.cons rfl (fun K hK => ?_) ?_
        · go_simp
          refine hK _ _ ?_
          clear hK K
          refine wpAnyIn_ready (rs := [2]) (by kernel_rfl) (by simp) ?_
          refine AllReadyIn.cons rfl (fun K hK => ?_) ?_
          · go_simp
            refine ⟨trivial, CallsIn.mono (CallsIn.inRound _ (callsIn_wide.2 (bytes_any 48 Wb.heap.size Wb.heap.size _ w4.drew hJ4 hne4))) ?_⟩
            rintro e w5 ⟨a5, c5, rfl, ho5, nq, rfl⟩
            rw [World.drewN_drew]
            refine hK _ _ ?_
            clear hK K
            refine wpAnyIn_ready (rs := [3]) (by kernel_rfl) (by simp) ?_
            refine AllReadyIn.cons rfl (fun K hK => ?_) ?_
            · go_simp
              refine hK _ _ ?_
              clear hK K
              refine wpAnyIn_ready (rs := [4]) (by kernel_rfl) (by simp) ?_
              refine AllReadyIn.cons rfl (fun K hK => ?_) ?_
              · refine stepIn_app rfl _ _ 25 rfl (w.heap.size + 5) 22 j0 _ 1 24 Tryd.underlying25 hj hy0 hy1 hy2 rfl (by decide) _ k vs rfl (World.ownsRow.alloc (V4 nq) _) _ 1 1 [.slice a5 _ c5] rfl rfl (one_new (w4.drewN (1 + nq)) 22 _) (by simp [Value.oneCell']) (by omega) (by omega) (by decide) (by have := hW4.size; simp; omega) ?_
                intro a7 c7 w6 od hb6 hg6
                have d7 := (hb6.cell (p := ⟨w.heap.size + 1, 0, none⟩) (by simp)).trans (late ((Below.refl _ _).alloc (Nat.le_refl _) _) (lt4 nq) (d8 nq))
                have d9 := (hb6.frozen (p := ⟨w.heap.size + 1, 0, none⟩) (by simp)).trans ((((Below.refl (w4.drewN (1 + nq)).heap.size _).alloc (Nat.le_refl _) _).frozen (p := ⟨w.heap.size + 1, 0, none⟩) (lt4 nq)).trans (d10 nq))
                refine hK _ _ ?_
                clear hK K
                refine wpAnyIn_ready (rs := [5]) (by kernel_rfl) (by simp) ?_
                refine AllReadyIn.cons rfl (fun K hK => ?_) ?_
                · go_simp
                  refine hK _ _ ?_
                  clear hK K
                  refine wpAnyIn_done (by kernel_rfl) ?_ _
                  have hpush := Ro.push (ls := (List.range k).map (chunk p all)) (World.ownsRow.alloc (V4 nq) _) (fun i hi => by obtain ⟨x1, x2, x3, x4, x5⟩ := V2.out i hi; exact ⟨x1, x2, x3, x4, World.ownsRow.alloc (w := w4.drewN (1 + nq)) (own_later x5 (W5 nq)) _⟩) V3.out (own_mono (World.ownsRow.alloc (w := w4.drewN (1 + nq)) (own_later ho5 ⟨rfl, rfl, rfl, Nat.le_refl _, fun _ _ => rfl⟩) _) (by omega)) od hg6
                  have hfin := St.next (l := rec .ready none) Hall.out Hout.out Hbb.out Hdf.out Hl.out (w6 := w6) (fun j hj => (hb6.block j hj).trans (((Below.refl (w4.drewN (1 + nq)).heap.size _).alloc (Nat.le_refl _) _).block j (by have := hW4.size; simp; omega) |>.trans (hW4.block j (by omega)))) ((hbel.trans ((W5 nq).mono (by omega))).alloc (by have := (W5 nq).size; omega) _ |>.trans (hb6.mono (by omega))) rfl (by rw [List.range_succ, List.map_append]; exact hpush)
                  exact ⟨hfin.1, rfl, hfin.2⟩
                exact AllReadyIn.nil
              exact AllReadyIn.nil
            exact AllReadyIn.nil
          exact AllReadyIn.nil
        refine AllReadyIn.cons rfl (fun K hK => ?_) ?_
        · go_simp
          refine ⟨trivial, CallsIn.mono (CallsIn.inRound _ (callsIn_wide.2 (bytes_any 48 Wb.heap.size Wb.heap.size _ w4.drew hJ4 hne4))) ?_⟩
          rintro e w5 ⟨a5, c5, rfl, ho5, nq, rfl⟩
          rw [World.drewN_drew]
          refine hK _ _ ?_
          clear hK K
          refine wpAnyIn_ready (rs := [0, 3]) (by kernel_rfl) (by simp) ?_
          refine AllReadyIn.cons rfl (fun K hK => ?_) ?_
          · go_simp
            refine hK _ _ ?_
            clear hK K
            refine wpAnyIn_ready (rs := [3]) (by kernel_rfl) (by simp) ?_
            refine AllReadyIn.cons rfl (fun K hK => ?_) ?_
            · go_simp
              refine hK _ _ ?_
              clear hK K
              refine wpAnyIn_ready (rs := [4]) (by kernel_rfl) (by simp) ?_
              refine AllReadyIn.cons rfl (fun K hK => ?_) ?_
              · refine stepIn_app rfl _ _ 25 rfl (w.heap.size + 5) 22 j0 _ 1 24 Tryd.underlying25 hj hy0 hy1 hy2 rfl (by decide) _ k vs rfl (World.ownsRow.alloc (V4 nq) _) _ 1 1 [.slice a5 _ c5] rfl rfl (one_new (w4.drewN (1 + nq)) 22 _) (by simp [Value.oneCell']) (by omega) (by omega) (by decide) (by have := hW4.size; simp; omega) ?_
                intro a7 c7 w6 od hb6 hg6
                have d7 := (hb6.cell (p := ⟨w.heap.size + 1, 0, none⟩) (by simp)).trans (late ((Below.refl _ _).alloc (Nat.le_refl _) _) (lt4 nq) (d8 nq))
                have d9 := (hb6.frozen (p := ⟨w.heap.size + 1, 0, none⟩) (by simp)).trans ((((Below.refl (w4.drewN (1 + nq)).heap.size _).alloc (Nat.le_refl _) _).frozen (p := ⟨w.heap.size + 1, 0, none⟩) (lt4 nq)).trans (d10 nq))
                refine hK _ _ ?_
                clear hK K
                refine wpAnyIn_ready (rs := [5]) (by kernel_rfl) (by simp) ?_
                refine AllReadyIn.cons rfl (fun K hK => ?_) ?_
                · go_simp
                  refine hK _ _ ?_
                  clear hK K
                  refine wpAnyIn_done (by kernel_rfl) ?_ _
                  have hpush := Ro.push (ls := (List.range k).map (chunk p all)) (World.ownsRow.alloc (V4 nq) _) (fun i hi => by obtain ⟨x1, x2, x3, x4, x5⟩ := V2.out i hi; exact ⟨x1, x2, x3, x4, World.ownsRow.alloc (w := w4.drewN (1 + nq)) (own_later x5 (W5 nq)) _⟩) V3.out (own_mono (World.ownsRow.alloc (w := w4.drewN (1 + nq)) (own_later ho5 ⟨rfl, rfl, rfl, Nat.le_refl _, fun _ _ => rfl⟩) _) (by omega)) od hg6
                  have hfin := St.next (l := rec .ready none) Hall.out Hout.out Hbb.out Hdf.out Hl.out (w6 := w6) (fun j hj => (hb6.block j hj).trans (((Below.refl (w4.drewN (1 + nq)).heap.size _).alloc (Nat.le_refl _) _).block j (by have := hW4.size; simp; omega) |>.trans (hW4.block j (by omega)))) ((hbel.trans ((W5 nq).mono (by omega))).alloc (by have := (W5 nq).size; omega) _ |>.trans (hb6.mono (by omega))) rfl (by rw [List.range_succ, List.map_append]; exact hpush)
                  exact ⟨hfin.1, rfl, hfin.2⟩
                exact AllReadyIn.nil
              exact AllReadyIn.nil
            exact AllReadyIn.nil
          refine AllReadyIn.cons rfl (fun K hK => ?_) ?_
          · go_simp
            refine hK _ _ ?_
            clear hK K
            refine wpAnyIn_ready (rs := [0]) (by kernel_rfl) (by simp) ?_
            refine AllReadyIn.cons rfl (fun K hK => ?_) ?_
            · go_simp
              refine hK _ _ ?_
              clear hK K
              refine wpAnyIn_ready (rs := [4]) (by kernel_rfl) (by simp) ?_
              refine AllReadyIn.cons rfl (fun K hK => ?_) ?_
              · refine stepIn_app rfl _ _ 25 rfl (w.heap.size + 5) 22 j0 _ 1 24 Tryd.underlying25 hj hy0 hy1 hy2 rfl (by decide) _ k vs rfl (World.ownsRow.alloc (V4 nq) _) _ 1 1 [.slice a5 _ c5] rfl rfl (one_new (w4.drewN (1 + nq)) 22 _) (by simp [Value.oneCell']) (by omega) (by omega) (by decide) (by have := hW4.size; simp; omega) ?_
                intro a7 c7 w6 od hb6 hg6
                have d7 := (hb6.cell (p := ⟨w.heap.size + 1, 0, none⟩) (by simp)).trans (late ((Below.refl _ _).alloc (Nat.le_refl _) _) (lt4 nq) (d8 nq))
                have d9 := (hb6.frozen (p := ⟨w.heap.size + 1, 0, none⟩) (by simp)).trans ((((Below.refl (w4.drewN (1 + nq)).heap.size _).alloc (Nat.le_refl _) _).frozen (p := ⟨w.heap.size + 1, 0, none⟩) (lt4 nq)).trans (d10 nq))
                refine hK _ _ ?_
                clear hK K
                refine wpAnyIn_ready (rs := [5]) (by kernel_rfl) (by simp) ?_
                refine AllReadyIn.cons rfl (fun K hK => ?_) ?_
                · go_simp
                  refine hK _ _ ?_
                  clear hK K
                  refine wpAnyIn_done (by kernel_rfl) ?_ _
                  have hpush := Ro.push (ls := (List.range k).map (chunk p all)) (World.ownsRow.alloc (V4 nq) _) (fun i hi => by obtain ⟨x1, x2, x3, x4, x5⟩ := V2.out i hi; exact ⟨x1, x2, x3, x4, World.ownsRow.alloc (w := w4.drewN (1 + nq)) (own_later x5 (W5 nq)) _⟩) V3.out (own_mono (World.ownsRow.alloc (w := w4.drewN (1 + nq)) (own_later ho5 ⟨rfl, rfl, rfl, Nat.le_refl _, fun _ _ => rfl⟩) _) (by omega)) od hg6
                  have hfin := St.next (l := rec .ready none) Hall.out Hout.out Hbb.out Hdf.out Hl.out (w6 := w6) (fun j hj => (hb6.block j hj).trans (((Below.refl (w4.drewN (1 + nq)).heap.size _).alloc (Nat.le_refl _) _).block j (by have := hW4.size; simp; omega) |>.trans (hW4.block j (by omega)))) ((hbel.trans ((W5 nq).mono (by omega))).alloc (by have := (W5 nq).size; omega) _ |>.trans (hb6.mono (by omega))) rfl (by rw [List.range_succ, List.map_append]; exact hpush)
                  exact ⟨hfin.1, rfl, hfin.2⟩
                exact AllReadyIn.nil
              exact AllReadyIn.nil
            exact AllReadyIn.nil
          exact AllReadyIn.nil
        exact AllReadyIn.nil
      exact AllReadyIn.nil
    case done =>
      rintro e W2 ⟨hv, hst⟩
      unfold rfDone
      simp only [World.size_alloc, Nat.add_assoc, Nat.reduceAdd]
      refine ⟨hv, .ready, none, by decide, hst.bl, ?_⟩
      obtain ⟨h1, h2, ⟨a4, c4, h3, hro⟩, h4, h5, h6⟩ := hst
      have ho : ∀ k, k ≠ w.heap.size + 4 → (W2.putObj (w.heap.size + 4) (.loop (rec .exhausted none))).heap[k]? = W2.heap[k]? := fun k hk => World.putObj_heap_other hk
      have hbel : Below w.heap.size w (W2.putObj (w.heap.size + 4) (.loop (rec .exhausted none))) := h1.trans ⟨rfl, rfl, rfl, by simp, fun k hk => ho k (by omega)⟩
      have hsz := (Array.getElem?_eq_some_iff.1 h6).1
      have hsz' : w.heap.size + 4 < (W2.putObj (w.heap.size + 4) (.loop (rec .exhausted none))).heap.size := by simpa using hsz
      have e3 := (ho _ (by omega)).trans h3
      have e5 := (ho _ (by omega)).trans h5
      have hr := hro.above (w' := W2.putObj (w.heap.size + 4) (.loop (rec .exhausted none))) (fun k hk _ => ho k (by omega))
      clear h1 h2 h3 hro h4 h5 h6 ho hsz
      dsimp only
      generalize W2.putObj (w.heap.size + 4) (.loop (rec .exhausted none)) = W3 at *
      have c3 := one_cell e3
      rw [Hp.out] at Hcut
      gi_wp2
      refine ⟨by simp, .inl ⟨_, _, rfl, run_takeDeferred e5, ?_⟩⟩
      have ho : ∀ k, k ≠ w.heap.size + 3 → (W3.putObj (w.heap.size + 3) (.deferred none)).heap[k]? = W3.heap[k]? := fun k hk => World.putObj_heap_other hk
      exact ⟨.tuple #[.slice a4 all c4, .int .i64 0], results_tmp2 (t := 2) (u := 3) rfl _ _ _, cutted_of Hcut.out ((hr.above (fun k hk _ => ho k (by omega))).low (by omega)) (hbel.trans ⟨rfl, rfl, rfl, by simp, fun k hk => ho k (by omega)⟩)⟩
  · have hd : decide ((255 : Int) < all) = true := by simp; omega
    have Hcut := Lib.hid (@cutS_long p (by rw [Hp.out]; omega))
    clear hal
    go_enter Tryd.func9, Tryd.ntmps9
    go_wp2_with (go_at_call 15; refine (HC.out _ (by omega)).mono ?_; rintro e w' ⟨rfl, rfl⟩)
    go_ret2
    exact cutted_of Hcut.out (Ro.nil _ _) ((Below.refl _ _).alloc (Nat.le_refl _) _)
end Go.Proofs.YtgmcnjnkiblbjaaDoor
