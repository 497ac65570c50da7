/- Rows of tags that rise: set, dropped, found (plain). types.Same of the same. -/
import Derived.Test.YtnhcmibngcmebaaTgE
namespace Go.Proofs.Ytnhcmibngcmebaa
open Go.RowKit Tt
set_option linter.unusedVariables false
set_option linter.unusedSimpArgs false

def Pw (ts : List Tg) : Prop := ts.Pairwise (fun a b => a.1 < b.1)
theorem pw_split (t : Int) : ∀ {ts : List Tg}, Pw ts → ∃ A M C, ts = A ++ M ++ C ∧ (∀ a ∈ A, a.1 < t) ∧ (∀ c ∈ C, t < c.1) ∧ (M = [] ∨ ∃ y, M = [y] ∧ y.1 = t)
  | [], _ => ⟨[], [], [], rfl, by simp, by simp, .inl rfl⟩
  | x :: r, h => by
    obtain ⟨h1, h2⟩ := List.pairwise_cons.1 h
    rcases Int.lt_trichotomy x.1 t with hx | hx | hx
    · obtain ⟨A, M, C, rfl, hA, hC, hM⟩ := pw_split t h2
      exact ⟨x :: A, M, C, by simp, by intro a ha; rcases List.mem_cons.1 ha with rfl | ha; exact hx; exact hA a ha, hC, hM⟩
    · exact ⟨[], [x], r, rfl, by simp, fun c hc => by have := h1 c hc; omega, .inr ⟨x, rfl, hx⟩⟩
    · exact ⟨[], [], x :: r, rfl, by simp, fun c hc => by rcases List.mem_cons.1 hc with rfl | hc; exact hx; have := h1 c hc; omega, .inl rfl⟩
section
variable {A M C : List Tg} {t : Int} (hA : ∀ a ∈ A, a.1 < t) (hC : ∀ c ∈ C, t < c.1) (hM : M = [] ∨ ∃ y, M = [y] ∧ y.1 = t)
include hA hC hM
omit hA hC in
theorem m_abc : ∀ y ∈ M, y.1 = t := fun y hy => by
  rcases hM with rfl | ⟨z, rfl, hz⟩
  · cases hy
  · obtain rfl : y = z := by simpa using hy
    exact hz
theorem set_abc {x : Tg} (hx : x.1 = t) : setS (A ++ M ++ C) x = A ++ x :: C := by
  unfold setS
  rw [hx]
  have e1 : (A ++ M ++ C).takeWhile (fun y => decide (y.1 < t)) = A := by
    rw [List.append_assoc, List.takeWhile_append_of_pos (fun y hy => by simpa using hA y hy)]
    have : (M ++ C).takeWhile (fun y => decide (y.1 < t)) = [] := by
      rcases hM with rfl | ⟨y, rfl, hy⟩
      · cases C with
        | nil => rfl
        | cons c r => rw [List.nil_append, List.takeWhile_cons_of_neg (by have := hC c List.mem_cons_self; simp; omega)]
      · rw [List.singleton_append, List.takeWhile_cons_of_neg (by simp; omega)]
    rw [this, List.append_nil]
  have e2 : (A ++ M ++ C).filter (fun y => decide (t < y.1)) = C := by
    rw [List.filter_append, List.filter_append, fil_none (l := A) (fun y hy => by have := hA y hy; simp; omega), fil_none (l := M) (fun y hy => by have := m_abc hM y hy; simp; omega), fil_all (fun y hy => by simpa using hC y hy)]
    rfl
  rw [e1, e2]
theorem drop_abc : dropS (A ++ M ++ C) t = A ++ C := by
  unfold dropS
  rw [List.filter_append, List.filter_append, fil_all (l := A) (fun y hy => by have := hA y hy; simp; omega), fil_none (l := M) (fun y hy => by have := m_abc hM y hy; simp; omega), fil_all (fun y hy => by have := hC y hy; simp; omega)]
  rw [List.append_nil]
omit hM in
theorem pw_abc {x : Tg} (hx : x.1 = t) (h : Pw (A ++ M ++ C)) : Pw (A ++ x :: C) := by
  unfold Pw at h ⊢
  rw [List.pairwise_append, List.pairwise_append] at h
  rw [List.pairwise_append]
  refine ⟨h.1.1, List.pairwise_cons.2 ⟨fun c hc => by have := hC c hc; omega, h.2.1⟩, fun a ha b hb => ?_⟩
  rcases List.mem_cons.1 hb with rfl | hb
  · have := hA a ha; omega
  · have := hA a ha; have := hC b hb; omega
end
theorem find_mem {L : List Tg} (h : Pw L) {y : Tg} (hy : y ∈ L) : findS L y.1 = (true, y.2) := by
  obtain ⟨s, r, rfl⟩ := List.append_of_mem hy
  refine find_skip (fun z hz => ?_) rfl
  have := (List.pairwise_append.1 h).2.2 z hz y List.mem_cons_self
  omega
theorem mem_set {ts : List Tg} {x y : Tg} (h : y ∈ setS ts x) : y = x ∨ y ∈ ts := by
  unfold setS at h
  rcases List.mem_append.1 h with h | h
  · exact .inr ((List.takeWhile_sublist _).mem h)
  · rcases List.mem_cons.1 h with h | h
    · exact .inl h
    · exact .inr (List.mem_filter.1 h).1
theorem set_mem {ts : List Tg} {x : Tg} : x ∈ setS ts x := by unfold setS; simp
/-- all that the statement asks of a row that rises and a tag that is set -/
structure SetOk (ts : List Tg) (x : Tg) (b : Bool) (v : Int × Int × List Int) : Prop where
  pw : Pw (setS ts x)
  pwd : Pw (dropS (setS ts x) x.1)
  pwl : Pw (dropS ts x.1)
  found : findS (setS ts x) x.1 = (true, x.2)
  lenT : b = true → (setS ts x).length = ts.length
  lenF : b = false → (setS ts x).length = ts.length + 1
  each : ∀ y ∈ ts, ∃ q, findS (setS ts x) y.1 = (true, q) ∧ (y.1 ≠ x.1 → q = y.2)
  gone : findS (dropS (setS ts x) x.1) x.1 = (false, 0, 0, [])
  lend : (dropS (setS ts x) x.1).length + 1 = (setS ts x).length
  same : dropS (setS ts x) x.1 = dropS ts x.1
  backT : b = true → setS (dropS (setS ts x) x.1) (x.1, v) = ts
  backF : b = false → dropS (setS ts x) x.1 = ts
theorem set_ok {ts : List Tg} (h : Pw ts) (x : Tg) {b : Bool} {v : Int × Int × List Int} (hf : findS ts x.1 = (b, v)) : SetOk ts x b v := by
  obtain ⟨A, M, C, rfl, hA, hC, hM⟩ := pw_split x.1 h
  have e1 := set_abc hA hC hM (x := x) rfl
  have e2 : dropS (A ++ M ++ C) x.1 = A ++ C := drop_abc hA hC hM
  have e3 : dropS (A ++ x :: C) x.1 = A ++ C := by
    have := drop_abc (M := [x]) hA hC (.inr ⟨x, rfl, rfl⟩)
    rwa [List.append_assoc, List.singleton_append] at this
  have p1 : Pw (A ++ x :: C) := pw_abc hA hC rfl h
  have p2 : Pw (A ++ C) := by rw [← e2]; exact h.sublist List.filter_sublist
  have hb : (b = true ∧ ∃ y, M = [y] ∧ y.1 = x.1 ∧ v = y.2) ∨ (b = false ∧ M = []) := by
    rcases hM with rfl | ⟨y, rfl, hy⟩
    · right
      rw [find_none (fun y hy => by rw [List.append_nil] at hy; rcases List.mem_append.1 hy with hy | hy; have := hA y hy; omega; have := hC y hy; omega)] at hf
      simp only [Prod.mk.injEq] at hf
      exact ⟨hf.1.symm, rfl⟩
    · left
      rw [List.append_assoc, List.singleton_append, find_skip (fun y hy => by have := hA y hy; omega) hy] at hf
      simp only [Prod.mk.injEq] at hf
      exact ⟨hf.1.symm, y, rfl, hy, hf.2.symm⟩
  refine ⟨?_, ?_, ?_, ?_, ?_, ?_, ?_, ?_, ?_, ?_, ?_, ?_⟩
  · rw [e1]; exact p1
  · rw [e1, e3]; exact p2
  · rw [e2]; exact p2
  · exact find_mem (by rw [e1]; exact p1) set_mem
  · intro ht
    rcases hb with ⟨_, y, rfl, _⟩ | ⟨h0, _⟩
    · rw [e1]; simp <;> omega
    · rw [ht] at h0; cases h0
  · intro ht
    rcases hb with ⟨h0, _⟩ | ⟨_, rfl⟩
    · rw [ht] at h0; cases h0
    · rw [e1]; simp <;> omega
  · intro y hy
    rw [e1]
    by_cases hyx : y.1 = x.1
    · rw [hyx]
      exact ⟨x.2, find_mem p1 (by simp), fun hn => absurd rfl hn⟩
    · refine ⟨y.2, find_mem p1 ?_, fun _ => rfl⟩
      rcases List.mem_append.1 hy with hy | hy
      · rcases List.mem_append.1 hy with hy | hy
        · exact List.mem_append_left _ hy
        · rcases hM with rfl | ⟨z, rfl, hz⟩
          · cases hy
          · obtain rfl : y = z := by simpa using hy
            exact absurd hz hyx
      · exact List.mem_append_right _ (List.mem_cons_of_mem _ hy)
  · rw [e1, e3]
    exact find_none fun y hy => by
      rcases List.mem_append.1 hy with hy | hy
      · have := hA y hy; omega
      · have := hC y hy; omega
  · rw [e1, e3]; simp <;> omega
  · rw [e1, e3, e2]
  · intro ht
    rcases hb with ⟨_, y, rfl, hy, rfl⟩ | ⟨h0, _⟩
    · rw [e1, e3]
      have := set_abc (M := []) (x := (x.1, y.2)) hA hC (.inl rfl) rfl
      rw [List.append_nil] at this
      rw [this, ← hy]
      simp
    · rw [ht] at h0; cases h0
  · intro ht
    rcases hb with ⟨h0, _⟩ | ⟨_, rfl⟩
    · rw [ht] at h0; cases h0
    · rw [e1, e3]; simp
theorem pw_of {ts : List Tg} (h : risesS ts = true) : Pw ts := by
  rw [risesS_iff] at h
  unfold Pw
  have hlt : ∀ (i j : Nat) (hi : i < ts.length) (hj : j < ts.length), i < j → ts[i].1 < ts[j].1 := by
    intro i j hi hj hij
    induction j with
    | zero => omega
    | succ j ih =>
      have h1 := h j hj
      rw [List.getD_eq_getElem?_getD, List.getElem?_eq_getElem (by omega), List.getD_eq_getElem?_getD, List.getElem?_eq_getElem hj] at h1
      simp only [Option.getD_some] at h1
      rcases Nat.lt_or_ge i j with h2 | h2
      · have := ih (by omega) h2; omega
      · obtain rfl : i = j := by omega
        exact h1
  exact List.pairwise_iff_getElem.2 hlt
theorem of_pw {ts : List Tg} (h : Pw ts) : risesS ts = true := risesS_iff.2 fun i hi => by
  rw [List.getD_eq_getElem?_getD, List.getElem?_eq_getElem (by omega), List.getD_eq_getElem?_getD, List.getElem?_eq_getElem hi]
  exact List.pairwise_iff_getElem.1 h i (i + 1) (by omega) hi (by omega)
theorem row_set {dir : Int} {ts : List Tg} {x : Tg} (h : rowS dir ts = true) (hx : tmayT dir x = true) (hp : Pw (setS ts x)) : rowS dir (setS ts x) = true := by
  unfold rowS at h ⊢
  simp only [Bool.and_eq_true] at h ⊢
  refine ⟨⟨⟨List.all_eq_true.2 fun y hy => ?_, of_pw hp⟩, h.1.2⟩, h.2⟩
  rcases mem_set hy with rfl | hy
  · exact hx
  · exact List.all_eq_true.1 h.1.1.1 y hy
theorem row_drop {dir t : Int} {ts : List Tg} (h : rowS dir ts = true) (hp : Pw (dropS ts t)) : rowS dir (dropS ts t) = true := by
  unfold rowS at h ⊢
  simp only [Bool.and_eq_true] at h ⊢
  exact ⟨⟨⟨List.all_eq_true.2 fun y hy => List.all_eq_true.1 h.1.1.1 y (List.mem_filter.1 hy).1, of_pw hp⟩, h.1.2⟩, h.2⟩
theorem row_rises {dir : Int} {ts : List Tg} (h : rowS dir ts = true) : risesS ts = true := by
  unfold rowS at h
  simp only [Bool.and_eq_true] at h
  exact h.1.1.2
end Go.Proofs.Ytnhcmibngcmebaa
