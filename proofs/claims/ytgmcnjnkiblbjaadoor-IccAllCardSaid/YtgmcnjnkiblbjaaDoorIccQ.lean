/- Plain laws on cutting and joining. -/
import Derived.Test.YtgmcnjnkiblbjaaDoorIccP
namespace Tt
open Go
set_option linter.unusedVariables false

theorem chunk_get12 (p : List Int) (all i : Nat) : (chunk p all i).getD 12 0 = (i : Int) + 1 := by simp [chunk, hd]
theorem chunk_get13 (p : List Int) (all i : Nat) : (chunk p all i).getD 13 0 = (all : Int) := by simp [chunk, hd]
theorem chunk_isB (p : List Int) (all i : Nat) : isB (chunk p all i) = true := by simp [isB, chunk, hd]
theorem chunk_drop (p : List Int) (all i : Nat) : (chunk p all i).drop 14 = (p.drop (65519 * i)).take 65519 := by simp [chunk, hd]
theorem chunk_size (p : List Int) (all i : Nat) : (chunk p all i).length = 14 + min 65519 (p.length - 65519 * i) := by simp [chunk, hd]; omega

theorem cntN_top {n : Nat} (h : n ≤ 196657) : cntN n ≤ 4 := by unfold cntN; split <;> omega
theorem chunk_right {p : List Int} {i : Nat} (hi : i < cntN p.length) : rightB (chunk p (cntN p.length) i) i (cntN p.length) = true := by
  have h1 := cntN_lt.1 hi
  have hs := chunk_size p (cntN p.length) i
  unfold rightB
  rw [chunk_isB, chunk_get12, chunk_get13]
  simp only [beq_self_eq_true, Bool.and_self, Bool.true_and, Bool.or_eq_true, Bool.and_eq_true, decide_eq_true_eq]
  rcases Nat.lt_or_ge (65519 * (i + 1)) p.length with h2 | h2
  · left; omega
  · rcases Nat.lt_or_ge 65518 (p.length - 65519 * i) with h3 | h3
    · left; omega
    · right
      refine ⟨⟨?_, by omega⟩, by omega⟩
      have h4 : ¬ i + 1 < cntN p.length := fun h => by have := cntN_lt.1 h; omega
      omega

theorem joinE_all {all : Nat} : ∀ (l : List (List Int)) (k : Nat), (∀ i, i < l.length → rightB (l.getD i []) ((k + i : Nat) : Int) all = true ∧ 14 ≤ (l.getD i []).length) → joinE all k l = 0
  | [], _, _ => rfl
  | b :: r, k, h => by
    have h0 := h 0 (by simp)
    simp only [List.getD_cons_zero, Nat.add_zero] at h0
    rw [joinE_cons, if_neg (by omega), if_neg (by rw [h0.1]; decide)]
    refine joinE_all r (k + 1) fun i hi => ?_
    have := h (i + 1) (by simp; omega)
    rw [List.getD_cons_succ, show k + (i + 1) = k + 1 + i by omega] at this
    exact this
theorem joinE_two {all : Nat} : ∀ (l : List (List Int)) (k : Nat), (∀ i, i < l.length → 14 ≤ (l.getD i []).length) → (∃ i, i < l.length ∧ rightB (l.getD i []) ((k + i : Nat) : Int) all = false) → joinE all k l = 2
  | [], _, _, ⟨i, hi, _⟩ => by simp at hi
  | b :: r, k, h, ⟨i, hi, hr⟩ => by
    have h0 := h 0 (by simp)
    simp only [List.getD_cons_zero] at h0
    rw [joinE_cons, if_neg (by omega)]
    cases hb : rightB b k all
    · rw [if_pos rfl]
    · rw [if_neg (by decide)]
      refine joinE_two r (k + 1) (fun i hi => ?_) ?_
      · have := h (i + 1) (by simp; omega)
        rwa [List.getD_cons_succ] at this
      · cases i with
        | zero => simp [hb] at hr
        | succ i =>
          rw [List.getD_cons_succ, show k + (i + 1) = k + 1 + i by omega] at hr
          exact ⟨i, by simp at hi; omega, hr⟩

theorem map_get {α : Type} (f : Nat → List α) {m i : Nat} (h : i < m) : ((List.range m).map f).getD i [] = f i := by
  rw [List.getD_eq_getElem?_getD, List.getElem?_map, List.getElem?_range h]; rfl

theorem flat_range (p : List Int) : ∀ m, ((List.range m).flatMap fun i => (p.drop (65519 * i)).take 65519) = p.take (65519 * m)
  | 0 => by simp
  | m + 1 => by
    rw [List.range_succ, List.flatMap_append, flat_range p m]
    simp only [List.flatMap_cons, List.flatMap_nil, List.append_nil]
    rw [show 65519 * (m + 1) = 65519 * m + 65519 by omega, List.take_add]

theorem join_cut {p : List Int} (h : cntN p.length ≤ 255) : joinS (cutS p).1 = (p, 0) := by
  rw [cutS_ok h]
  have hl : ((List.range (cntN p.length)).map (chunk p (cntN p.length))).length = cntN p.length := by simp
  have he : joinE ((List.range (cntN p.length)).map (chunk p (cntN p.length))).length 0 ((List.range (cntN p.length)).map (chunk p (cntN p.length))) = 0 := by
    rw [hl]
    refine joinE_all _ 0 fun i hi => ?_
    rw [hl] at hi
    rw [map_get _ hi, Nat.zero_add]
    exact ⟨chunk_right hi, by rw [chunk_size]; omega⟩
  unfold joinS
  rw [if_neg (by rw [hl]; omega), if_pos he]
  congr 1
  unfold parts
  rw [List.flatMap_map]
  have : (fun i => (chunk p (cntN p.length) i).drop 14) = fun i => (p.drop (65519 * i)).take 65519 := by funext i; exact chunk_drop _ _ _
  rw [this, flat_range]
  apply List.take_of_length_le
  have : ¬ cntN p.length < cntN p.length := Nat.lt_irrefl _
  rw [cntN_lt] at this
  omega

theorem cut_row {p : List Int} {i : Nat} (h : cntN p.length ≤ 255) (hi : i < (cutS p).1.length) : ((cutS p).1.getD i []).length ≤ 65533 ∧ isB ((cutS p).1.getD i []) = true := by
  rw [cutS_ok h] at hi ⊢
  simp only [List.length_map, List.length_range] at hi
  rw [map_get _ hi]
  exact ⟨by rw [chunk_size]; omega, chunk_isB _ _ _⟩
theorem cut_len {p : List Int} (h : cntN p.length ≤ 255) : (cutS p).1.length = cntN p.length := by rw [cutS_ok h]; simp
theorem cut_code {p : List Int} (h : cntN p.length ≤ 255) : (cutS p).2 = 0 := by rw [cutS_ok h]

/- joined, then cut -/
theorem rightB_row {b : List Int} {i all : Nat} (h : rightB b i all = true) : b = hd ++ [(i : Int) + 1, (all : Int)] ++ b.drop 14 ∧ 14 ≤ b.length ∧ (b.length = 65533 ∨ ((i : Int) = all - 1 ∧ 15 ≤ b.length ∧ b.length < 65533)) := by
  unfold rightB at h
  simp only [Bool.and_eq_true, Bool.or_eq_true, decide_eq_true_eq, beq_iff_eq] at h
  obtain ⟨⟨⟨h1, h2⟩, h3⟩, h4⟩ := h
  have hl : 14 ≤ b.length := by omega
  refine ⟨?_, hl, by omega⟩
  have ht : b.take 12 = hd := by unfold isB at h1; exact beq_iff_eq.1 h1
  have e13 : b.take 13 = b.take 12 ++ [b.getD 12 0] := by rw [List.take_add_one, List.getD_eq_getElem?_getD, List.getElem?_eq_getElem (by omega)]; rfl
  have e14 : b.take 14 = b.take 13 ++ [b.getD 13 0] := by rw [List.take_add_one, List.getD_eq_getElem?_getD, List.getElem?_eq_getElem (by omega)]; rfl
  have : b = b.take 14 ++ b.drop 14 := (List.take_append_drop 14 b).symm
  rw [e14, e13, ht, h2, h3] at this
  simpa using this

theorem joinE_rows {all : Nat} : ∀ (l : List (List Int)) (k : Nat), joinE all k l = 0 → ∀ i, i < l.length → rightB (l.getD i []) ((k + i : Nat) : Int) all = true
  | [], _, _, i, hi => by simp at hi
  | b :: r, k, h, i, hi => by
    rw [joinE_cons] at h
    split at h
    · omega
    · split at h
      · omega
      · cases i with
        | zero =>
          rename_i _ hb
          simpa using hb
        | succ i =>
          rw [List.getD_cons_succ, show k + (i + 1) = k + 1 + i by omega]
          exact joinE_rows r (k + 1) h i (by simp at hi; omega)

theorem parts_cons (b : List Int) (r : List (List Int)) : parts (b :: r) = b.drop 14 ++ parts r := by simp [parts]
theorem parts_cut {all : Nat} : ∀ (l : List (List Int)) (k : Nat), k + l.length = all → (∀ i, i < l.length → rightB (l.getD i []) ((k + i : Nat) : Int) all = true) →
    (∀ i, i < l.length → ((parts l).drop (65519 * i)).take 65519 = (l.getD i []).drop 14) ∧ (parts l).length ≤ 65519 * l.length ∧ (l ≠ [] → 65519 * (l.length - 1) < (parts l).length)
  | [], _, _, _ => ⟨fun i hi => by simp at hi, by simp [parts], fun h => absurd rfl h⟩
  | b :: r, k, hk, h => by
    have h0 := h 0 (by simp)
    simp only [List.getD_cons_zero, Nat.add_zero] at h0
    obtain ⟨_, hb1, hb2⟩ := rightB_row h0
    obtain ⟨ih1, ih2, ih3⟩ := parts_cut (all := all) r (k + 1) (by simp at hk; omega) (fun i hi => by
      have := h (i + 1) (by simp; omega)
      rwa [List.getD_cons_succ, show k + (i + 1) = k + 1 + i by omega] at this)
    have hlen : (b :: r).length = r.length + 1 := rfl
    rw [hlen] at hk
    have hdl : (b.drop 14).length = b.length - 14 := List.length_drop
    have hbl : b.length ≤ 65533 := by omega
    rw [parts_cons]
    refine ⟨fun i hi => ?_, ?_, fun _ => ?_⟩
    · cases i with
      | zero =>
        simp only [Nat.mul_zero, List.drop_zero, List.getD_cons_zero]
        rcases hb2 with hb2 | hb2
        · rw [List.take_append_of_le_length (by omega), List.take_of_length_le (by omega)]
        · have : r = [] := List.eq_nil_of_length_eq_zero (by omega)
          subst this
          simp only [parts, List.flatMap_nil, List.append_nil]
          rw [List.take_of_length_le (by omega)]
      | succ i =>
        rw [hlen] at hi
        have : b.length = 65533 := by omega
        rw [List.getD_cons_succ, ← ih1 i (by omega)]
        rw [List.drop_append, List.drop_eq_nil_of_le (by omega), List.nil_append, hdl, show 65519 * (i + 1) - (b.length - 14) = 65519 * i by omega]
    · rw [List.length_append, hdl, hlen]; omega
    · rw [List.length_append, hdl, hlen]
      rcases hb2 with hb2 | hb2
      · rcases r with _ | ⟨c, s⟩
        · simp; omega
        · have := ih3 (by simp)
          omega
      · have : r.length = 0 := by omega
        rw [this]
        omega

theorem cut_join {l : List (List Int)} (h : (joinS l).2 = 0) : cutS (joinS l).1 = (l, 0) := by
  have hlen : l.length ≤ 255 := by
    rcases Nat.lt_or_ge 255 l.length with h1 | h1
    · unfold joinS at h; rw [if_pos h1] at h; exact absurd h (by decide)
    · exact h1
  have hE : joinE l.length 0 l = 0 := by
    unfold joinS at h
    rw [if_neg (by omega)] at h
    split at h
    · assumption
    · exact h
  have hq : (joinS l).1 = parts l := by unfold joinS; rw [if_neg (by omega), if_pos hE]
  rw [hq]
  have hr := joinE_rows l 0 hE
  obtain ⟨p1, p2, p3⟩ := parts_cut l 0 (by omega) hr
  have hc : cntN (parts l).length = l.length := by
    rcases l with _ | ⟨b, r⟩
    · simp [parts, cntN]
    · have := p3 (by simp)
      simp only [List.length_cons] at this p2 ⊢
      generalize (parts (b :: r)).length = n at *
      unfold cntN
      rw [if_neg (by omega)]
      omega
  rw [cutS_ok (by omega), hc]
  congr 1
  apply List.ext_getElem
  · simp
  · intro i h1 h2
    simp only [List.length_map, List.length_range] at h1
    have hi := rightB_row (hr i h1)
    have e : l.getD i [] = l[i] := by rw [List.getD_eq_getElem?_getD, List.getElem?_eq_getElem h2]; rfl
    simp only [List.getElem_map, List.getElem_range]
    unfold chunk
    rw [p1 i h1, ← e, Nat.zero_add] at *
    exact hi.1.symm
end Tt
