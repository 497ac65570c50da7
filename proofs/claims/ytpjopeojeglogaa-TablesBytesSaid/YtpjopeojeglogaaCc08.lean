/- Chapter 1: Put and Turn. -/
import Derived.Test.YtpjopeojeglogaaCc06
import Derived.Test.YtpjopeojeglogaaCc07
namespace Go.Proofs.Ytpjopeojeglogaa
open Go.RowKit Tt
set_option linter.unusedVariables false
set_option linter.unusedSimpArgs false

theorem getD_ext {x y : List Int} (h : x.length = y.length) (hg : ∀ k, k < x.length → x.getD k 0 = y.getD k 0) : x = y := by
  refine List.ext_getElem h (fun k h1 h2 => ?_); have := hg k h1
  rwa [getD_el h1, getD_el h2] at this
/-- a row of bytes, of which some are turned -/
theorem reverse_row (g o n c : Nat) (p : List Int) (T : TypeId) (w : World) (hr : Row w g T .u8 p) (h1 : o + n ≤ p.length) (hn : n ≤ 1000000) :
    Calls Try.prog 163 #[.slice (some ⟨g, o, none⟩) n c] w fun e w' => e = .returned (.tuple #[]) ∧ ∃ p' : List Int, Row w' g T .u8 p' ∧ p'.length = p.length ∧ (∀ k, k < p.length → p'.getD k 0 = if o ≤ k ∧ k < o + n then p.getD (2 * o + n - 1 - k) 0 else p.getD k 0) ∧ But g w w' := by
  have hsz : (ints .u8 p).toArray.size = p.length := by simp [ints]
  have hget : ∀ k, k < p.length → (ints .u8 p).toArray[k]? = some (.int .u8 (p.getD k 0)) := fun k hk => by
    rw [List.getElem?_toArray]; exact ints_get hk
  refine (reverse_any g o n c (ints .u8 p).toArray ((p.drop o).take n) T w hr (by simp; omega) hn (fun k hk => ?_)).mono ?_
  · rw [hget _ (by omega)]
    congr 2
    rw [List.getD_eq_getElem?_getD, List.getD_eq_getElem?_getD, List.getElem?_take, if_pos hk, List.getElem?_drop]
  · rintro e w' ⟨rfl, cs', hb, hs, hin, hout, hbut⟩
    refine ⟨rfl, (List.range p.length).map (fun k => if o ≤ k ∧ k < o + n then p.getD (2 * o + n - 1 - k) 0 else p.getD k 0), ?_, by simp, fun k hk => ?_, hbut⟩
    · have : cs' = (ints .u8 ((List.range p.length).map (fun k => if o ≤ k ∧ k < o + n then p.getD (2 * o + n - 1 - k) 0 else p.getD k 0))).toArray := by
        refine Array.ext_getElem? (fun k => ?_)
        by_cases hk : k < p.length
        · refine Eq.trans ?_ (Eq.trans (ints_get (k := .u8) (l := (List.range p.length).map (fun k => if o ≤ k ∧ k < o + n then p.getD (2 * o + n - 1 - k) 0 else p.getD k 0)) (i := k) (by simpa using hk)).symm (by simp))
          rw [getD_el (by simpa using hk)]; simp only [List.getElem_map, List.getElem_range]
          by_cases hi : o ≤ k ∧ k < o + n
          · have := hin (k - o) (by omega)
            rw [show o + (k - o) = k by omega] at this; rw [this, if_pos hi]
            congr 2
            rw [List.getD_eq_getElem?_getD, List.getD_eq_getElem?_getD, List.getElem?_take, if_pos (by omega), List.getElem?_drop]
            congr 2; omega
          · rw [hout k (by omega), if_neg hi, hget k hk]
        · rw [Array.getElem?_eq_none (by rw [hs, hsz]; omega), Array.getElem?_eq_none (by simp [ints]; omega)]
      unfold Row; rw [← this]; exact hb
    · rw [getD_el (by simpa using hk)]
      simp
theorem top_any (s : Int) (h : s = 1 ∨ s = 2 ∨ s = 4) (w : World) : Calls Try.prog 162 #[.int .i64 s] w fun e w' => e = .returned (.int .i64 (topS s)) ∧ w = w' := by
  rcases h with rfl | rfl | rfl
  all_goals
    go_enter Try.func162, Try.ntmps162
    go_wp2
    go_ret
    exact ⟨rfl, rfl⟩
theorem putOk_may {n s o : Int} (h : mayB s o = false) : putOk n s o = false := by
  unfold mayB at h; unfold putOk topS
  simp at h ⊢
  intro h1 h2 h3
  split <;> (try split) <;> (try split) <;> omega
theorem leb_get : ∀ (k : Nat) (n : Int) (i : Nat), i < k → (leb k n).getD i 0 = n / 2 ^ (8 * i) % 256
  | 0, _, _, h => by omega
  | k + 1, n, 0, _ => by simp [leb]
  | k + 1, n, i + 1, h => by
    simp only [leb, List.getD_cons_succ]; rw [leb_get k _ i (by omega), Int.ediv_ediv_of_nonneg (by decide)]
    congr 2
    rw [show 8 * (i + 1) = 8 + 8 * i by omega, Int.pow_add]
    rfl
/-- the number's bytes, the highest one first, of which the last i are there -/
def putI (s : Nat) (n : Int) (i : Nat) : List Int := List.replicate (s - i) 0 ++ ((leb s n).take i).reverse
theorem putI_step {s i : Nat} (n : Int) (h : i < s) : (putI s n i).set (s - 1 - i) (n / 2 ^ (8 * i) % 256) = putI s n (i + 1) := by
  have hl := leb_len s n; unfold putI; rw [show s - i = (s - (i + 1)) + 1 by omega, List.replicate_succ', List.append_assoc, show s - 1 - i = s - (i + 1) by omega, List.set_append_right _ _ (by simp), List.length_replicate, Nat.sub_self, take_snoc' (by rw [hl]; exact h), leb_get s n i h]
  simp
theorem made_row {L : Nat} : (madeCells (Value.int .u8 0).cells (L * 1)).toList = ints .u8 (List.replicate L 0) := by
  rw [Nat.mul_one]
  show (madeCells #[Value.int .u8 0] L).toList = _
  rw [toList_madeCells_one]; simp [ints]
set_option maxRecDepth 20000 in
set_option maxHeartbeats 4000000 in
theorem put_any (n s o : Int) (w : World) : Calls Try.prog 119 #[.int .i64 n, .int .i64 s, .int .i64 o] w fun e w' => ∃ a m c, e = .returned (.tuple #[.slice a m c, .bool (putOk n s o)]) ∧ w'.ownsRow w.heap.size 5 1 (.slice a m c) m (ints .u8 (putS n s o)) ∧ Below w.heap.size w w' := by
  obtain ⟨i0, hi, hz0, hz1, hz2⟩ := info_parts info8; have hmm := fun W => omay_any s o W; obtain ⟨m, hm⟩ : ∃ m, mayB s o = m := ⟨_, rfl⟩; rw [hm] at hmm; have hmm' := Lib.hid hmm; clear hmm
  cases m
  · have e1 := putOk_may (n := n) hm
    have e2 : putS n s o = [] := by unfold putS; rw [e1]; rfl
    rw [e1, e2]; clear e1 e2 hm
    go_enter Try.func119, Try.ntmps119
    go_wp2_with (go_at_call 161; refine (hmm'.out _).mono ?_; rintro e w1 ⟨rfl, hb1⟩; have HB1 := Lib.hid hb1; clear hb1)
    go_ret2
    exact ⟨none, 0, 0, rfl, own_nil _ _ _ _, HB1.out⟩
  · obtain ⟨hsz, hord⟩ := mayB_size hm
    clear hm
    by_cases h0 : n < 0
    · have e1 : putOk n s o = false := by unfold putOk; rw [decide_eq_false (show ¬ 0 ≤ n by omega)]; simp
      have e2 : putS n s o = [] := by unfold putS; rw [e1]; rfl
      rw [e1, e2]; clear e1 e2 hsz hord
      go_enter Try.func119, Try.ntmps119
      go_wp2_with (go_at_call 161; refine (hmm'.out _).mono ?_; rintro e w1 ⟨rfl, hb1⟩; have HB1 := Lib.hid hb1; clear hb1)
      go_ret2
      exact ⟨none, 0, 0, rfl, own_nil _ _ _ _, HB1.out⟩
    · have d1 : decide (n < 0) = false := by simp; omega
      have HT := Lib.hid (fun W => top_any s hsz W)
      by_cases h1 : topS s ≤ n
      · have e1 : putOk n s o = false := by unfold putOk; rw [decide_eq_false (show ¬ n < topS s by omega)]; simp
        have e2 : putS n s o = [] := by unfold putS; rw [e1]; rfl
        have d2 : decide (topS s ≤ n) = true := by simp; omega
        rw [e1, e2]; clear e1 e2 hsz hord
        generalize topS s = T at *
        go_enter Try.func119, Try.ntmps119
        go_wp2_with (first | (go_at_call 161; refine (hmm'.out _).mono ?_; rintro e w1 ⟨rfl, hb1⟩; have HB1 := Lib.hid hb1; clear hb1) | (go_at_call 162; refine (HT.out _).mono ?_; rintro e w1 ⟨rfl, rfl⟩))
        go_ret2
        exact ⟨none, 0, 0, rfl, own_nil _ _ _ _, HB1.out⟩
      · have e1 : putOk n s o = true := by unfold putOk; simp; omega
        have d2 : decide (topS s ≤ n) = false := by simp; omega
        have hT := topS_le s; rw [e1]; obtain ⟨L, rfl⟩ : ∃ L : Nat, s = L := ⟨s.toNat, by omega⟩; have hL1 : 1 ≤ L := by omega
        have hL4 : L ≤ 4 := by omega
        have e2 : putS n L o = if o = 1 then leb L n else (leb L n).reverse := by unfold putS; rw [if_pos e1]; rfl
        clear e1 hsz
        generalize topS L = T at *
        have hst := fun i (h : i < L) => putI_step (s := L) (i := i) n h; have hll := leb_len L n; have hp0 : putI L n 0 = List.replicate L 0 := by unfold putI; simp
        have hpl : putI L n L = (leb L n).reverse := by unfold putI; simp [List.take_of_length_le (Nat.le_of_eq hll)]
        have hplen : ∀ i, i ≤ L → (putI L n i).length = L := fun i h => by unfold putI; simp [hll]; omega
        have hst' := Lib.hid hst; have e2' := Lib.hid e2; have hll' := Lib.hid hll; have hp0' := Lib.hid hp0; have hpl' := Lib.hid hpl; have hplen' := Lib.hid hplen; clear hst e2 hll hp0 hpl hplen
        go_enter Try.func119, Try.ntmps119
        go_wp2_with (first | (go_at_call 161; refine (hmm'.out _).mono ?_; rintro e w1 ⟨rfl, hb1⟩; have HB1 := Lib.hid hb1; clear hb1) | (go_at_call 162; refine (HT.out _).mono ?_; rintro e w1 ⟨rfl, rfl⟩) | (at_make; refine wpList_make_full w1 rfl _ _ 30 rfl w1.heap.size 5 i0 _ 1 Try.underlying30 hi hz0 hz1 .i64 .i64 _ _ L rfl rfl rfl rfl (by rw [hz2]; omega) (by unfold maxLen; omega) (Nat.le_refl _) ?_; intro w2 hown hg2; have Hown := Lib.hid hown; have Hg2 := Lib.hid hg2; clear hown hg2))
        have R2 : Row w2 w1.heap.size 5 .u8 (List.replicate L 0) := by have h := Hown.out; rw [made_row] at h; exact Row.of_own h
        have hb2 : Below w.heap.size w w2 := HB1.out.trans (((Below.refl _ _).grown Hg2.out (Nat.le_refl _) (fun k e => by cases e)).mono HB1.out.size); obtain ⟨g, hg⟩ : ∃ g, w1.heap.size = g := ⟨_, rfl⟩; have hgw : w.heap.size ≤ g := by rw [← hg]; exact HB1.out.size
        rw [hg] at R2; rw [hg]; clear HB1 Hown Hg2 hg; have R2' := Lib.hid R2; have hb2' := Lib.hid hb2; clear R2 hb2
        go_loopw [28] (fun i wr => ∃ (k : Nat), k ≤ L ∧ i = .int .i64 k ∧ Hid (Row wr g 5 .u8 (putI L n k)) ∧ Hid (Below w.heap.size w wr)) (fun i _ => L - (intOf i).toNat)
        case atStart => exact ⟨0, by omega, rfl, Lib.hid (by rw [hp0'.out]; exact R2'.out), hb2'⟩
        case round =>
          obtain ⟨k, hk, rfl, hr, hb⟩ := hrel
          by_cases hlt : k < L
          · have hsh : (2 : Int) ^ (8 * (k : Int)).toNat = 2 ^ (8 * k) := by congr 1
            obtain ⟨q, hq⟩ : ∃ q : Nat, q = L - 1 - k := ⟨_, rfl⟩; have hw1 : IntKind.i64.wrap ((L : Int) - 1) = L - 1 := by rw [IntKind.wrap_i64]; omega
            have hw2 : IntKind.i64.wrap ((L : Int) - 1 - k) = q := by rw [IntKind.wrap_i64]; omega
            have hw3 : IntKind.u64.wrap (k : Int) = k := by rw [IntKind.wrap_u64]; omega
            have hw4 : IntKind.u64.wrap (8 * (k : Int)) = 8 * k := by rw [IntKind.wrap_u64]; omega
            have hqL : (q : Int) < L := by omega
            have f0 := hr.out.frozen q; have f1 := hr.out.cell (i := q) (by rw [hplen'.out k hk]; omega); have hstk := hst'.out k hlt; have hw5 : IntKind.u8.wrap (n / 2 ^ (8 * k)) = n / 2 ^ (8 * k) % 256 := IntKind.wrap_u8 _; rw [← hq] at hstk; have hstk' := Lib.hid hstk; have hq' := Lib.hid hq; clear hstk hq; clear hord
            go_wp2
            go_roundw
            case rel => exact ⟨k + 1, by omega, by go_num, Lib.hid (by have h := hr.out.set q (n / 2 ^ (8 * k) % 256); rw [hstk'.out] at h; exact h), Lib.hid (hb.out.setCell (p := ⟨g, q, none⟩) hgw _)⟩
            case measure => simp [intOf]; omega
          · obtain rfl : k = L := by omega
            by_cases ho : o = 1
            · have d5 : (o == 1) = true := by simp [ho]
              have HR := Lib.hid (reverse_row g 0 k k (putI k n k) 5 wr hr.out (by rw [hplen'.out k hk]; omega) (by omega)); have ho' := Lib.hid ho; clear ho; clear hord
              go_wp2_with (go_at_call 163; refine (HR.out).mono ?_; rintro e w3 ⟨rfl, p', hr3, hl3, hg3, hb3⟩; have HR3 := Lib.hid hr3; have HL3 := Lib.hid hl3; have HG3 := Lib.hid hg3; have HB3 := Lib.hid hb3; clear hr3 hl3 hg3 hb3)
              go_ret2
              refine ⟨some ⟨g, 0, none⟩, k, k, rfl, ?_, hb.out.trans (HB3.out.below hgw hb.out.size)⟩; rw [e2'.out, if_pos ho'.out]
              have : p' = leb k n := by
                have h1 := hplen'.out k hk; have h2 := hll'.out; refine getD_ext (by rw [HL3.out, h1, h2]) (fun i hik => ?_); rw [HL3.out, h1] at hik; rw [HG3.out i (by rw [h1]; exact hik), if_pos (by omega), hpl'.out, List.getD_eq_getElem?_getD, List.getElem?_reverse (by rw [h2]; omega), List.getD_eq_getElem?_getD, h2]
                congr 2; omega
              rw [← this]; exact HR3.out.own (by rw [HL3.out, hplen'.out k hk]) hgw (by unfold maxLen; omega)
            · have d5 : (o == 1) = false := by simp [ho]
              have ho' := Lib.hid ho; clear ho; clear hord
              go_wp2
              go_ret2
              refine ⟨some ⟨g, 0, none⟩, k, k, rfl, ?_, hb.out⟩; rw [e2'.out, if_neg ho'.out, ← hpl'.out]; exact hr.out.own (hplen'.out k hk) hgw (by unfold maxLen; omega)
end Go.Proofs.Ytpjopeojeglogaa
