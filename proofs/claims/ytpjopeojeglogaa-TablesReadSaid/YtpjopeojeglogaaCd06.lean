/- Chapter 1: Put and Turn. | A range over a function, walked with its iterator in one: of whatever program. -/
import Derived.Test.YtpjopeojeglogaaCd04
import Derived.Test.YtpjopeojeglogaaCd05
import Derived.RangeFuncNested
import Derived.RangeFuncBound
import Derived.RangeFuncCalls
import Derived.RangeFuncLeaves
import Derived.RangeFuncBox
import Derived.Shelf.Abstract
import Derived.Shelf.RegionOpen
import Derived.OwnWalkIn
import Derived.TacticsInMore
import Derived.LoopNIn
import Derived.LoopIn
import Derived.Test.YtpjopeojeglogaaCd00
namespace Go.Proofs.Ytpjopeojeglogaa
open Go.RowKit Tt
set_option linter.unusedVariables false
set_option linter.unusedSimpArgs false

theorem getD_ext {x y : List Int} (h : x.length = y.length) (hg : ∀ k, k < x.length → x.getD k 0 = y.getD k 0) : x = y := by
  refine List.ext_getElem h (fun k h1 h2 => ?_); have := hg k h1
  rwa [getD_el h1, getD_el h2] at this
/-- a row of bytes, of which some are turned -/
theorem reverse_row (g o n c : Nat) (p : List Int) (T : TypeId) (w : World) (hr : Row w g T .u8 p) (h1 : o + n ≤ p.length) (hn : n ≤ 1000000) :
    Calls Try.prog 163 #[.slice (some ⟨g, o, none⟩) n c] w fun e w' => e = .returned (.tuple #[]) ∧ ∃ p' : List Int, Row w' g T .u8 p' ∧ p'.length = p.length ∧ (∀ k, k < p.length → p'.getD k 0 = if o ≤ k ∧ k < o + n then p.getD (2 * o + n - 1 - k) 0 else p.getD k 0) ∧ But g w w' := by
  have hsz : (ints .u8 p).toArray.size = p.length := by simp [ints]
  have hget : ∀ k, k < p.length → (ints .u8 p).toArray[k]? = some (.int .u8 (p.getD k 0)) := fun k hk => by
    rw [List.getElem?_toArray]; exact ints_get hk
  refine (reverse_any g o n c (ints .u8 p).toArray ((p.drop o).take n) T w hr (by simp; omega) hn (fun k hk => ?_)).mono ?_
  · rw [hget _ (by omega)]
    congr 2
    rw [List.getD_eq_getElem?_getD, List.getD_eq_getElem?_getD, List.getElem?_take, if_pos hk, List.getElem?_drop]
  · rintro e w' ⟨rfl, cs', hb, hs, hin, hout, hbut⟩
    refine ⟨rfl, (List.range p.length).map (fun k => if o ≤ k ∧ k < o + n then p.getD (2 * o + n - 1 - k) 0 else p.getD k 0), ?_, by simp, fun k hk => ?_, hbut⟩
    · have : cs' = (ints .u8 ((List.range p.length).map (fun k => if o ≤ k ∧ k < o + n then p.getD (2 * o + n - 1 - k) 0 else p.getD k 0))).toArray := by
        refine Array.ext_getElem? (fun k => ?_)
        by_cases hk : k < p.length
        · refine Eq.trans ?_ (Eq.trans (ints_get (k := .u8) (l := (List.range p.length).map (fun k => if o ≤ k ∧ k < o + n then p.getD (2 * o + n - 1 - k) 0 else p.getD k 0)) (i := k) (by simpa using hk)).symm (by simp))
          rw [getD_el (by simpa using hk)]; simp only [List.getElem_map, List.getElem_range]
          by_cases hi : o ≤ k ∧ k < o + n
          · have := hin (k - o) (by omega)
            rw [show o + (k - o) = k by omega] at this; rw [this, if_pos hi]
            congr 2
            rw [List.getD_eq_getElem?_getD, List.getD_eq_getElem?_getD, List.getElem?_take, if_pos (by omega), List.getElem?_drop]
            congr 2; omega
          · rw [hout k (by omega), if_neg hi, hget k hk]
        · rw [Array.getElem?_eq_none (by rw [hs, hsz]; omega), Array.getElem?_eq_none (by simp [ints]; omega)]
      unfold Row; rw [← this]; exact hb
    · rw [getD_el (by simpa using hk)]
      simp
theorem top_any (s : Int) (h : s = 1 ∨ s = 2 ∨ s = 4) (w : World) : Calls Try.prog 162 #[.int .i64 s] w fun e w' => e = .returned (.int .i64 (topS s)) ∧ w = w' := by
  rcases h with rfl | rfl | rfl
  all_goals
    go_enter Try.func162, Try.ntmps162
    go_wp2
    go_ret
    exact ⟨rfl, rfl⟩
theorem putOk_may {n s o : Int} (h : mayB s o = false) : putOk n s o = false := by
  unfold mayB at h; unfold putOk topS
  simp at h ⊢
  intro h1 h2 h3
  split <;> (try split) <;> (try split) <;> omega
theorem leb_get : ∀ (k : Nat) (n : Int) (i : Nat), i < k → (leb k n).getD i 0 = n / 2 ^ (8 * i) % 256
  | 0, _, _, h => by omega
  | k + 1, n, 0, _ => by simp [leb]
  | k + 1, n, i + 1, h => by
    simp only [leb, List.getD_cons_succ]; rw [leb_get k _ i (by omega), Int.ediv_ediv_of_nonneg (by decide)]
    congr 2
    rw [show 8 * (i + 1) = 8 + 8 * i by omega, Int.pow_add]
    rfl
/-- the number's bytes, the highest one first, of which the last i are there -/
def putI (s : Nat) (n : Int) (i : Nat) : List Int := List.replicate (s - i) 0 ++ ((leb s n).take i).reverse
theorem putI_step {s i : Nat} (n : Int) (h : i < s) : (putI s n i).set (s - 1 - i) (n / 2 ^ (8 * i) % 256) = putI s n (i + 1) := by
  have hl := leb_len s n; unfold putI; rw [show s - i = (s - (i + 1)) + 1 by omega, List.replicate_succ', List.append_assoc, show s - 1 - i = s - (i + 1) by omega, List.set_append_right _ _ (by simp), List.length_replicate, Nat.sub_self, take_snoc' (by rw [hl]; exact h), leb_get s n i h]
  simp
theorem made_row {L : Nat} : (madeCells (Value.int .u8 0).cells (L * 1)).toList = ints .u8 (List.replicate L 0) := by
  rw [Nat.mul_one]
  show (madeCells #[Value.int .u8 0] L).toList = _
  rw [toList_madeCells_one]; simp [ints]
set_option maxRecDepth 20000 in
set_option maxHeartbeats 4000000 in
theorem put_any (n s o : Int) (w : World) : Calls Try.prog 119 #[.int .i64 n, .int .i64 s, .int .i64 o] w fun e w' => ∃ a m c, e = .returned (.tuple #[.slice a m c, .bool (putOk n s o)]) ∧ w'.ownsRow w.heap.size 5 1 (.slice a m c) m (ints .u8 (putS n s o)) ∧ Below w.heap.size w w' := by
  obtain ⟨i0, hi, hz0, hz1, hz2⟩ := info_parts info8; have hmm := fun W => omay_any s o W; obtain ⟨m, hm⟩ : ∃ m, mayB s o = m := ⟨_, rfl⟩; rw [hm] at hmm; have hmm' := Lib.hid hmm; clear hmm
  cases m
  · have e1 := putOk_may (n := n) hm
    have e2 : putS n s o = [] := by unfold putS; rw [e1]; rfl
    rw [e1, e2]; clear e1 e2 hm
    go_enter Try.func119, Try.ntmps119
    go_wp2_with (go_at_call 161; refine (hmm'.out _).mono ?_; rintro e w1 ⟨rfl, hb1⟩; have HB1 := Lib.hid hb1; clear hb1)
    go_ret2
    exact ⟨none, 0, 0, rfl, own_nil _ _ _ _, HB1.out⟩
  · obtain ⟨hsz, hord⟩ := mayB_size hm
    clear hm
    by_cases h0 : n < 0
    · have e1 : putOk n s o = false := by unfold putOk; rw [decide_eq_false (show ¬ 0 ≤ n by omega)]; simp
      have e2 : putS n s o = [] := by unfold putS; rw [e1]; rfl
      rw [e1, e2]; clear e1 e2 hsz hord
      go_enter Try.func119, Try.ntmps119
      go_wp2_with (go_at_call 161; refine (hmm'.out _).mono ?_; rintro e w1 ⟨rfl, hb1⟩; have HB1 := Lib.hid hb1; clear hb1)
      go_ret2
      exact ⟨none, 0, 0, rfl, own_nil _ _ _ _, HB1.out⟩
    · have d1 : decide (n < 0) = false := by simp; omega
      have HT := Lib.hid (fun W => top_any s hsz W)
      by_cases h1 : topS s ≤ n
      · have e1 : putOk n s o = false := by unfold putOk; rw [decide_eq_false (show ¬ n < topS s by omega)]; simp
        have e2 : putS n s o = [] := by unfold putS; rw [e1]; rfl
        have d2 : decide (topS s ≤ n) = true := by simp; omega
        rw [e1, e2]; clear e1 e2 hsz hord
        generalize topS s = T at *
        go_enter Try.func119, Try.ntmps119
        go_wp2_with (first | (go_at_call 161; refine (hmm'.out _).mono ?_; rintro e w1 ⟨rfl, hb1⟩; have HB1 := Lib.hid hb1; clear hb1) | (go_at_call 162; refine (HT.out _).mono ?_; rintro e w1 ⟨rfl, rfl⟩))
        go_ret2
        exact ⟨none, 0, 0, rfl, own_nil _ _ _ _, HB1.out⟩
      · have e1 : putOk n s o = true := by unfold putOk; simp; omega
        have d2 : decide (topS s ≤ n) = false := by simp; omega
        have hT := topS_le s; rw [e1]; obtain ⟨L, rfl⟩ : ∃ L : Nat, s = L := ⟨s.toNat, by omega⟩; have hL1 : 1 ≤ L := by omega
        have hL4 : L ≤ 4 := by omega
        have e2 : putS n L o = if o = 1 then leb L n else (leb L n).reverse := by unfold putS; rw [if_pos e1]; rfl
        clear e1 hsz
        generalize topS L = T at *
        have hst := fun i (h : i < L) => putI_step (s := L) (i := i) n h; have hll := leb_len L n; have hp0 : putI L n 0 = List.replicate L 0 := by unfold putI; simp
        have hpl : putI L n L = (leb L n).reverse := by unfold putI; simp [List.take_of_length_le (Nat.le_of_eq hll)]
        have hplen : ∀ i, i ≤ L → (putI L n i).length = L := fun i h => by unfold putI; simp [hll]; omega
        have hst' := Lib.hid hst; have e2' := Lib.hid e2; have hll' := Lib.hid hll; have hp0' := Lib.hid hp0; have hpl' := Lib.hid hpl; have hplen' := Lib.hid hplen; clear hst e2 hll hp0 hpl hplen
        go_enter Try.func119, Try.ntmps119
        go_wp2_with (first | (go_at_call 161; refine (hmm'.out _).mono ?_; rintro e w1 ⟨rfl, hb1⟩; have HB1 := Lib.hid hb1; clear hb1) | (go_at_call 162; refine (HT.out _).mono ?_; rintro e w1 ⟨rfl, rfl⟩) | (at_make; refine wpList_make_full w1 rfl _ _ 30 rfl w1.heap.size 5 i0 _ 1 Try.underlying30 hi hz0 hz1 .i64 .i64 _ _ L rfl rfl rfl rfl (by rw [hz2]; omega) (by unfold maxLen; omega) (Nat.le_refl _) ?_; intro w2 hown hg2; have Hown := Lib.hid hown; have Hg2 := Lib.hid hg2; clear hown hg2))
        have R2 : Row w2 w1.heap.size 5 .u8 (List.replicate L 0) := by have h := Hown.out; rw [made_row] at h; exact Row.of_own h
        have hb2 : Below w.heap.size w w2 := HB1.out.trans (((Below.refl _ _).grown Hg2.out (Nat.le_refl _) (fun k e => by cases e)).mono HB1.out.size); obtain ⟨g, hg⟩ : ∃ g, w1.heap.size = g := ⟨_, rfl⟩; have hgw : w.heap.size ≤ g := by rw [← hg]; exact HB1.out.size
        rw [hg] at R2; rw [hg]; clear HB1 Hown Hg2 hg; have R2' := Lib.hid R2; have hb2' := Lib.hid hb2; clear R2 hb2
        go_loopw [28] (fun i wr => ∃ (k : Nat), k ≤ L ∧ i = .int .i64 k ∧ Hid (Row wr g 5 .u8 (putI L n k)) ∧ Hid (Below w.heap.size w wr)) (fun i _ => L - (intOf i).toNat)
        case atStart => exact ⟨0, by omega, rfl, Lib.hid (by rw [hp0'.out]; exact R2'.out), hb2'⟩
        case round =>
          obtain ⟨k, hk, rfl, hr, hb⟩ := hrel
          by_cases hlt : k < L
          · have hsh : (2 : Int) ^ (8 * (k : Int)).toNat = 2 ^ (8 * k) := by congr 1
            obtain ⟨q, hq⟩ : ∃ q : Nat, q = L - 1 - k := ⟨_, rfl⟩; have hw1 : IntKind.i64.wrap ((L : Int) - 1) = L - 1 := by rw [IntKind.wrap_i64]; omega
            have hw2 : IntKind.i64.wrap ((L : Int) - 1 - k) = q := by rw [IntKind.wrap_i64]; omega
            have hw3 : IntKind.u64.wrap (k : Int) = k := by rw [IntKind.wrap_u64]; omega
            have hw4 : IntKind.u64.wrap (8 * (k : Int)) = 8 * k := by rw [IntKind.wrap_u64]; omega
            have hqL : (q : Int) < L := by omega
            have f0 := hr.out.frozen q; have f1 := hr.out.cell (i := q) (by rw [hplen'.out k hk]; omega); have hstk := hst'.out k hlt; have hw5 : IntKind.u8.wrap (n / 2 ^ (8 * k)) = n / 2 ^ (8 * k) % 256 := IntKind.wrap_u8 _; rw [← hq] at hstk; have hstk' := Lib.hid hstk; have hq' := Lib.hid hq; clear hstk hq; clear hord
            go_wp2
            go_roundw
            case rel => exact ⟨k + 1, by omega, by go_num, Lib.hid (by have h := hr.out.set q (n / 2 ^ (8 * k) % 256); rw [hstk'.out] at h; exact h), Lib.hid (hb.out.setCell (p := ⟨g, q, none⟩) hgw _)⟩
            case measure => simp [intOf]; omega
          · obtain rfl : k = L := by omega
            by_cases ho : o = 1
            · have d5 : (o == 1) = true := by simp [ho]
              have HR := Lib.hid (reverse_row g 0 k k (putI k n k) 5 wr hr.out (by rw [hplen'.out k hk]; omega) (by omega)); have ho' := Lib.hid ho; clear ho; clear hord
              go_wp2_with (go_at_call 163; refine (HR.out).mono ?_; rintro e w3 ⟨rfl, p', hr3, hl3, hg3, hb3⟩; have HR3 := Lib.hid hr3; have HL3 := Lib.hid hl3; have HG3 := Lib.hid hg3; have HB3 := Lib.hid hb3; clear hr3 hl3 hg3 hb3)
              go_ret2
              refine ⟨some ⟨g, 0, none⟩, k, k, rfl, ?_, hb.out.trans (HB3.out.below hgw hb.out.size)⟩; rw [e2'.out, if_pos ho'.out]
              have : p' = leb k n := by
                have h1 := hplen'.out k hk; have h2 := hll'.out; refine getD_ext (by rw [HL3.out, h1, h2]) (fun i hik => ?_); rw [HL3.out, h1] at hik; rw [HG3.out i (by rw [h1]; exact hik), if_pos (by omega), hpl'.out, List.getD_eq_getElem?_getD, List.getElem?_reverse (by rw [h2]; omega), List.getD_eq_getElem?_getD, h2]
                congr 2; omega
              rw [← this]; exact HR3.out.own (by rw [HL3.out, hplen'.out k hk]) hgw (by unfold maxLen; omega)
            · have d5 : (o == 1) = false := by simp [ho]
              have ho' := Lib.hid ho; clear ho; clear hord
              go_wp2
              go_ret2
              refine ⟨some ⟨g, 0, none⟩, k, k, rfl, ?_, hb.out⟩; rw [e2'.out, if_neg ho'.out, ← hpl'.out]; exact hr.out.own (hplen'.out k hk) hgw (by unfold maxLen; omega)
end Go.Proofs.Ytpjopeojeglogaa

namespace Tt
open Go Go.RowKit
variable {F : Fence} {n : Nat} {P : Program}

/-- The record of a loop, in a state, with a pending jump. -/
def recOf (fn : FuncId) (tmps : Array Value) (ps : Array Tmp) (assign body : Code) (D : Nat) (st : LoopState) (pe : Option Code) : Loop :=
  { state := st, pending := pe, fn, tmps, params := ps, assign, body, defers := D }

/-- Behind the iterator. -/
def rfDone (F : Fence) (n : Nat) (P : Program) (Q : Exit → Act → World → Prop) (a : Act) (w : World) (rec : LoopState → Option Code → Loop) (e : Ending) (W2 : World) : Prop :=
  (∃ v, e = .returned v) ∧ ∃ st c, st ≠ .busy ∧ W2.heap[w.heap.size + 1]? = some (.loop (rec st c)) ∧
    (match c with
     | none => Q .normal { a with defers := { target := .collected w.heap.size, args := #[] } :: a.defers } (W2.putObj (w.heap.size + 1) (.loop (rec .exhausted c)))
     | some j => j.wpIn F n P Q { a with defers := { target := .collected w.heap.size, args := #[] } :: a.defers } (W2.putObj (w.heap.size + 1) (.loop (rec .exhausted c))))

theorem rf_law {g : Operand} {ps : Array Tmp} {assign body : Code} {Q : Exit → Act → World → Prop} {a : Act} {w : World}
    (hro : F.round = none) (h1 : 1 ≤ n) {gf : Nat} {lb : Array Value} (hg : a.eval g = .func (.func gf) #[] lb) (hFg : F.fn gf) (eg : ∀ args w, (callFunc gf args).run P w = .ok (.enter gf args) w)
    (h : ∀ fn, F.fn fn → CallsIn F (n - 1) P gf (#[.func (.yield (w.heap.size + 1)) #[] #[]] ++ lb)
      ((w.alloc (.deferred (some []))).alloc (.loop (recOf fn a.tmps ps assign body w.heap.size .ready none)))
      (rfDone F n P Q a w (recOf fn a.tmps ps assign body w.heap.size))) :
    (Code.rangeFunc g ps assign body).wpIn F n P Q a w := by
  refine wpIn_rangeFunc ?_; intro fn hfn; rw [hro]; have hh := h fn hfn; have hen := run_enterLoop_outer (P := P) (w := w) fn a.tmps ps assign body; have hrec : ({ state := .ready, pending := none, fn, tmps := a.tmps, params := ps, assign, body, defers := w.heap.size } : Loop) = recOf fn a.tmps ps assign body w.heap.size .ready none := rfl
  have hE : ∀ (W2 : World) (st : LoopState) (c : Option Code), st ≠ .busy → W2.heap[w.heap.size + 1]? = some (.loop (recOf fn a.tmps ps assign body w.heap.size st c)) →
      (Instr.endLoop (w.heap.size + 1)).run P W2 = .ok c (W2.putObj (w.heap.size + 1) (.loop (recOf fn a.tmps ps assign body w.heap.size .exhausted c))) := fun W2 st c hs hl => run_endLoop hl hs
  rw [hrec] at hen; clear hrec h
  generalize recOf fn a.tmps ps assign body w.heap.size = rec at *
  generalize (w.alloc (.deferred (some []))).alloc (.loop (rec .ready none)) = W1 at *
  refine ⟨w.heap.size + 1, [{ target := .collected w.heap.size, args := #[] }], W1, { target := .fn (.func gf) lb, args := #[.func (.yield (w.heap.size + 1)) #[] #[]] }, W1, gf, #[.func (.yield (w.heap.size + 1)) #[] #[]] ++ lb, W1, hen, ?_, ?_, ?_, fun _ => h1, ?_⟩
  · simp only [resolve, hg]
    simp [go_sem]
  · intro f' hf'; simp [Target.leads] at hf'; subst hf'; exact hFg
  · simp [invoke, go_sem, eg]
  · refine CallsIn.mono hh ?_
    rintro e W2 ⟨⟨v, rfl⟩, st, c, hs, hl, hq⟩; have hend := hE W2 st c hs hl; exact ⟨c, _, hend, hq⟩

/-- How a round may be left. -/
def rfPost (l : Nat) (rec : LoopState → Option Code → Loop) (R : Ending → World → Prop) : Exit → Act → World → Prop
  | .normal, _, W3 => W3.heap[l]? = some (.loop (rec .busy none)) ∧ R (.returned (.bool true)) (W3.putObj l (.loop (rec .ready none)))
  | .ret, _, W3 => W3.heap[l]? = some (.loop (rec .busy none)) ∧ R (.returned (.bool false)) (W3.putObj l (.loop (rec .done (some .ret))))
  | .exit id, _, W3 => W3.heap[l]? = some (.loop (rec .busy none)) ∧ R (.returned (.bool false)) (W3.putObj l (.loop (rec .done (some (.exit id)))))
  | _, _, _ => False

theorem rf_round {m : Nat} {l : Nat} {fn : FuncId} {tmps : Array Value} {ps : Array Tmp} {assign body : Code} {D : Nat} {W : World} {args : Array Value} {R : Ending → World → Prop}
    (hfn : F.fn fn) (hl : W.heap[l]? = some (.loop (recOf fn tmps ps assign body D .ready none))) (hps : args.size = ps.size)
    (h : assign.wpIn (F.inRound l) m P (Exit.then (fun a₁ w₁ => w₁.heap[l]? = some (.loop (recOf fn tmps ps assign body D .ready none)) ∧
        body.wpIn (F.inRound l) m P (rfPost l (recOf fn tmps ps assign body D) R) a₁ (w₁.putObj l (.loop (recOf fn tmps ps assign body D .busy none)))) (fun _ _ _ => False))
      { tmps := (ps.zip args).foldl (fun t (p, v) => t.setIfInBounds p v) tmps, defers := [] } W) : YieldAt F m P l args W R := by
  refine ⟨fn, _, assign, body, run_yield hl hps, roundIn_of_wpIn hfn (wpIn_mono h ?_)⟩; intro e a1 w1 hq
  cases e with
  | normal =>
    obtain ⟨h1, h2⟩ := hq; refine ⟨_, run_beginRound h1 rfl, wpIn_mono h2 ?_⟩; intro e a3 W3 hp
    cases e with
    | normal => obtain ⟨h3, h4⟩ := hp; exact ⟨_, _, run_endRound none h3, h4⟩
    | ret => obtain ⟨h3, h4⟩ := hp; exact ⟨_, _, run_endRound (some .ret) h3, h4⟩
    | exit id => obtain ⟨h3, h4⟩ := hp; exact ⟨_, _, run_endRound (some (.exit id)) h3, h4⟩
    | goto t => exact hp.elim
    | panic c => exact hp.elim
    | outgrown => exact hp.elim
  | ret => exact hq.elim
  | exit id => exact hq.elim
  | goto t => exact hq.elim
  | panic c => exact hq.elim
  | outgrown => exact hq.elim

theorem rf_law' {g : Operand} {ps : Array Tmp} {assign body : Code} {Q : Exit → Act → World → Prop} {a : Act} {w : World}
    (hro : F.round = none) (h1 : 1 ≤ n) {gf : Nat} {lb : Array Value} (hg : a.eval g = .func (.func gf) #[] lb) (hFg : F.fn gf) (eg : ∀ args w, (callFunc gf args).run P w = .ok (.enter gf args) w)
    (h : ∀ fn rec, F.fn fn → Hid (rec = recOf fn a.tmps ps assign body w.heap.size) → CallsIn F (n - 1) P gf (#[.func (.yield (w.heap.size + 1)) #[] #[]] ++ lb)
      ((w.alloc (.deferred (some []))).alloc (.loop (rec .ready none)))
      (rfDone F n P Q a w rec)) :
    (Code.rangeFunc g ps assign body).wpIn F n P Q a w :=
  rf_law hro h1 hg hFg eg fun fn hfn => h fn _ hfn rfl

theorem rf_round' {m : Nat} {l : Nat} {fn : FuncId} {tmps : Array Value} {ps : Array Tmp} {assign body : Code} {D : Nat} {W : World} {args : Array Value} {R : Ending → World → Prop} {rec : LoopState → Option Code → Loop}
    (hfn : F.fn fn) (hrec : Hid (rec = recOf fn tmps ps assign body D)) (hl : W.heap[l]? = some (.loop (rec .ready none))) (hps : args.size = ps.size)
    (h : assign.wpIn (F.inRound l) m P (Exit.then (fun a₁ w₁ => w₁.heap[l]? = some (.loop (rec .ready none)) ∧
        body.wpIn (F.inRound l) m P (rfPost l rec R) a₁ (w₁.putObj l (.loop (rec .busy none)))) (fun _ _ _ => False))
      { tmps := (ps.zip args).foldl (fun t (p, v) => t.setIfInBounds p v) tmps, defers := [] } W) : YieldAt F m P l args W R := by
  have hr := hrec.out; subst hr; exact rf_round hfn hl hps h

end Tt
