/- Chapter 29: the plain law of PlaceBack. -/
import Derived.Test.YthcecnolmhillaaPl11
namespace Go.Proofs.Ythcecnolmhillaa
open Go.RowKit Tt
set_option linter.unusedVariables false

/-- lengths from 1 to 2^20 -/
def Lng (xs : List Int) (k : Nat) : Prop := ∀ j, j < k → 1 ≤ xs.getD j 0 ∧ xs.getD j 0 ≤ 1048576
theorem Lng.sum {xs : List Int} {n : Nat} (h : Lng xs n) (hn : n ≤ xs.length) : ∀ {k : Nat}, k ≤ n → (k : Int) ≤ upto xs k ∧ upto xs k ≤ k * 1048576
  | 0, _ => ⟨Int.le_refl _, Int.le_refl _⟩
  | k + 1, hk => by
    have h1 := h.sum hn (k := k) (by omega)
    have h2 := h k (by omega)
    rw [upto_succ (by omega)]
    push_cast
    omega
theorem Lng.ok {xs : List Int} {n : Nat} (h : Lng xs n) (hn : n = xs.length) (h100 : n ≤ 100) : startsOk xs = true := decide_eq_true fun i hi => by
  have h1 := h i (by omega)
  have h2 := h.sum (by omega) (k := i + 1) (by omega)
  refine ⟨h1.1, ?_⟩
  have : ((i + 1 : Nat) : Int) ≤ 100 := by omega
  omega
theorem Lng.first {xs : List Int} {n : Nat} (h : Lng xs n) (hn : n ≤ xs.length) : ∀ {k : Nat}, 1 ≤ k → k ≤ n → xs.getD 0 0 ≤ upto xs k
  | 1, _, hk => by rw [upto_succ (by omega), upto_zero]; omega
  | k + 2, _, hk => by
    have h1 := h.first hn (k := k + 1) (by omega) (by omega)
    have h2 := h (k + 1) (by omega)
    rw [upto_succ (by omega)]
    omega
theorem Lng.ofs {xs : List Int} {n : Nat} {header : Int} {ps : List Pl} (h : Lng xs n) (hn : n = xs.length) (h100 : n ≤ 100) (hp : ps.length = n) (h0 : 0 ≤ header) (h1 : header ≤ xs.getD 0 0) : ofB xs header ps = true :=
  ofB_yes (h.ok hn h100) (by omega) h0 fun i hi => by
    rcases Nat.eq_zero_or_pos i with h2 | h2
    · exact .inl h2
    · exact .inr (Int.le_trans h1 (h.first (by omega) h2 (by omega)))
/-- the places that are made -/
def made (xs : List Int) (header : Int) (ps : List Pl) : List Pl := (List.range xs.length).map (newP xs header ps)
theorem made_len (xs : List Int) (header : Int) (ps : List Pl) : (made xs header ps).length = xs.length := by simp [made]
theorem made_get {xs : List Int} {header : Int} {ps : List Pl} {i : Nat} (h : i < xs.length) : (made xs header ps).getD i plz = newP xs header ps i := by
  simp [made, h]
theorem made_zsz (xs : List Int) (header : Int) (ps : List Pl) : zsz (made xs header ps) = xs := by
  apply List.ext_getElem (by rw [zsz_len, made_len])
  intro i h1 h2
  have := zsz_get (ps := made xs header ps) (k := i) (by rw [made_len]; exact h2)
  rw [made_get h2, List.getD_eq_getElem?_getD, List.getElem?_eq_getElem h1] at this
  simp only [Option.getD_some] at this
  rw [this]
  simp [newP, h2]
theorem Lng.bk {xs : List Int} {n : Nat} {header : Int} {ps : List Pl} (h : Lng xs n) (hn : n = xs.length) (hpos : 0 < n) : backB (made xs header ps) header (upto xs n) = true := by
  refine backB_yes (by rw [made_len]; omega) (fun i hi => ?_) (by rw [made_zsz, made_len, hn])
  rw [made_len] at hi
  unfold bOk
  rw [made_get hi, made_zsz]
  have h1 := h i (by omega)
  have h2 := upto_succ hi
  have h3 : upto xs (i + 1) ≤ upto xs n := by
    have mono : ∀ d, i + 1 + d ≤ n → upto xs (i + 1) ≤ upto xs (i + 1 + d) := by
      intro d
      induction d with
      | zero => intro _; exact Int.le_refl _
      | succ d ih =>
        intro hd
        have h4 := h (i + 1 + d) (by omega)
        have h5 := upto_succ (xs := xs) (k := i + 1 + d) (by omega)
        have h6 := ih (by omega)
        rw [show i + 1 + (d + 1) = i + 1 + d + 1 by omega]
        omega
    have := mono (n - (i + 1)) (by omega)
    rwa [show i + 1 + (n - (i + 1)) = n by omega] at this
  refine ⟨rfl, h1.1, ?_⟩
  show xs.getD i 0 ≤ _
  omega
theorem Lng.bkV {xs : List Int} {n : Nat} {header : Int} {ps : List Pl} (h : Lng xs n) (hn : n = xs.length) (hpos : 0 < n) : backV (made xs header ps) header (upto xs n) = starts xs n := by
  unfold backV
  rw [if_pos (h.bk hn hpos), made_zsz, made_len, hn]
theorem back_long {xs : List Int} {header : Int} {ps : List Pl} {n : Nat} (hn : n = xs.length) : backB (made xs header ps) header (upto xs n + 1) = false :=
  backB_no2 (by rw [made_zsz, made_len, hn]; omega)
theorem upto_set {xs : List Int} {t : Nat} (ht : t < xs.length) (d : Int) : ∀ {k : Nat}, k ≤ xs.length → upto (xs.set t (xs.getD t 0 + d)) k = upto xs k + if t < k then d else 0
  | 0, _ => by simp [upto]
  | k + 1, hk => by
    have ih := upto_set ht d (k := k) (by omega)
    rw [upto_succ (by rw [List.length_set]; omega), upto_succ (by omega), ih]
    by_cases h : t = k
    · subst h
      rw [getD_set_self ht]
      simp
      omega
    · rw [getD_set_ne h]
      by_cases h2 : t < k
      · rw [if_pos h2, if_pos (by omega)]; omega
      · rw [if_neg h2, if_neg (by omega)]; omega
theorem back_size {xs : List Int} {header by_ : Int} {ps : List Pl} {n t : Nat} (hn : n = xs.length) (ht : t < n) (hb : by_ ≠ 0) {p : Pl} (hp : p.2.1 = xs.getD t 0 + by_) : backB ((made xs header ps).set t p) header (upto xs n) = false := by
  have hz : zsz ((made xs header ps).set t p) = xs.set t (xs.getD t 0 + by_) := by
    unfold zsz
    rw [List.map_set, hp]
    exact congrArg (fun l => List.set l t _) (made_zsz xs header ps)
  refine backB_no2 ?_
  rw [hz, List.length_set, made_len, upto_set (by omega) by_ (Nat.le_refl _), ← hn, if_pos ht]
  omega
theorem back_at {xs : List Int} {header by_ : Int} {ps : List Pl} {n t : Nat} (hn : n = xs.length) (ht : t < n) (hb : by_ ≠ 0) {p : Pl} (hp : p.2.1 = xs.getD t 0) (hp2 : p.2.2.1 = (newP xs header ps t).2.2.1 + by_) {size : Int} : backB ((made xs header ps).set t p) header size = false := by
  have hz : zsz ((made xs header ps).set t p) = xs := by
    have h1 : zsz ((made xs header ps).set t p) = xs.set t (xs.getD t 0) := by
      unfold zsz
      rw [List.map_set, hp]
      exact congrArg (fun l => List.set l t _) (made_zsz xs header ps)
    rw [h1, List.getD_eq_getElem?_getD, List.getElem?_eq_getElem (by omega : t < xs.length)]
    simp
  refine backB_no (i := t) (by rw [List.length_set, made_len]; omega) ?_
  unfold bOk
  rw [getD_set_self (by rw [made_len]; omega), hz, hp2]
  rintro ⟨h, _⟩
  have : (newP xs header ps t).2.2.1 = if t = 0 then 0 else upto xs t - header := rfl
  omega
end Go.Proofs.Ythcecnolmhillaa
