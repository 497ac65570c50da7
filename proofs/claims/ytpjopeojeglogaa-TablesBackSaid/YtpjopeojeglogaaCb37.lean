/- Chapter 14 (plain): a table of codes as it is filled; what is written is read. -/
import Derived.Test.YtpjopeojeglogaaCb36
namespace Go.Proofs.Ytpjopeojeglogaa
open Go.RowKit Tt
set_option linter.unusedVariables false
set_option linter.unusedSimpArgs false

/-- counts of which the first k are filled -/
def cK (t : List Int) (k : Nat) : List Int := t.take k ++ List.replicate (16 - k) 0
theorem cK_len {t : List Int} (ht : t.length = 16) {k : Nat} (hk : k ≤ 16) : (cK t k).length = 16 := by
  unfold cK; rw [List.length_append, List.length_take, List.length_replicate]
  omega
theorem cK_16 {t : List Int} (ht : t.length = 16) : cK t 16 = t := by
  unfold cK; rw [List.take_of_length_le (by omega)]
  simp
theorem cK_set {t : List Int} (ht : t.length = 16) {k : Nat} (hk : k < 16) {x : Int} (hx : t[k]? = some x) : (cK t k).set k x = cK t (k + 1) := by
  have hl : (t.take k).length = k := by rw [List.length_take]; omega
  unfold cK; rw [List.set_append_right _ _ (by omega), hl, Nat.sub_self, show 16 - k = (16 - (k + 1)) + 1 by omega, List.replicate_succ, List.set_cons_zero, List.take_add_one, hx, List.append_assoc]
  rfl
theorem cMC_set (cl id : Int) (c ss : List Int) (sa : Option Addr) (sn sc k : Nat) (x : Int) (hk : k < c.length) : (cMC ((cl, id, c, ss), sa, sn, sc)).toArray.setIfInBounds (2 + k) (.int .i64 x) = (cMC ((cl, id, c.set k x, ss), sa, sn, sc)).toArray := by
  unfold cMC; rw [List.setIfInBounds_toArray, Nat.add_comm 2 k]; simp only [List.set_cons_succ]; rw [List.set_append_left _ _ (by rw [ints_len]; exact hk)]; unfold ints; rw [List.map_set]
theorem cMC_set18 (cl id : Int) (c ss ss2 : List Int) (sa sa2 : Option Addr) (sn sc sn2 sc2 : Nat) (hc : c.length = 16) : (cMC ((cl, id, c, ss), sa, sn, sc)).toArray.setIfInBounds 18 (.slice sa2 sn2 sc2) = (cMC ((cl, id, c, ss2), sa2, sn2, sc2)).toArray := by
  unfold cMC; rw [List.setIfInBounds_toArray]; simp only [List.set_cons_succ]; rw [List.set_append_right _ _ (by rw [ints_len, hc]; omega), ints_len, hc]
  rfl
theorem cMC_set0 (cl cl2 id : Int) (c ss : List Int) (sa : Option Addr) (sn sc : Nat) : (cMC ((cl, id, c, ss), sa, sn, sc)).toArray.setIfInBounds 0 (.int .i64 cl2) = (cMC ((cl2, id, c, ss), sa, sn, sc)).toArray := by
  unfold cMC; rw [List.setIfInBounds_toArray]
  rfl
theorem cMC_set1 (cl id id2 : Int) (c ss : List Int) (sa : Option Addr) (sn sc : Nat) : (cMC ((cl, id, c, ss), sa, sn, sc)).toArray.setIfInBounds 1 (.int .i64 id2) = (cMC ((cl, id2, c, ss), sa, sn, sc)).toArray := by
  unfold cMC; rw [List.setIfInBounds_toArray]
  rfl
theorem many_nonneg {t : List Int} (h : Byt t) : ∀ k, 0 ≤ manyS t k ∧ manyS t k ≤ 255 * (k : Int)
  | 0 => ⟨Int.le_refl _, Int.le_refl _⟩
  | k + 1 => by
    have ih := many_nonneg h k; have hk := h.get k
    show 0 ≤ manyS t k + t.getD k 0 ∧ manyS t k + t.getD k 0 ≤ _
    omega
/-- which table bytes are, if there are 17 -/
theorem takeC_17 {z tt ss : List Int} {M : Nat} (hz : 17 ≤ z.length) (ht : (z.drop 1).take 16 = tt) (hM : manyS tt 16 = (M : Int)) (hs : (z.drop 17).take M = ss) :
    takeC z = if z.length < 17 + M then (3, (0, 0, [], []), 0) else if cOk (z.getD 0 0 / 16, z.getD 0 0 % 16, tt, ss) then (0, (z.getD 0 0 / 16, z.getD 0 0 % 16, tt, ss), 17 + M) else (2, (0, 0, [], []), 0) := by
  have hm : manyB z = M := by unfold manyB; rw [ht, hM]; exact Int.toNat_natCast M
  unfold takeC cOf; rw [if_neg (by omega), hm, ht, hs]
theorem takeC_ok (z : List Int) (h : (takeC z).1 = 0) : 0 < (takeC z).2.2 ∧ (takeC z).2.1.2.2.1.length = 16 ∧ cOk (takeC z).2.1 = true := by
  unfold takeC at h ⊢
  by_cases h1 : z.length < 17
  · rw [if_pos h1] at h; cases h
  rw [if_neg h1] at h ⊢
  by_cases h2 : z.length < 17 + manyB z
  · rw [if_pos h2] at h; cases h
  rw [if_neg h2] at h ⊢
  by_cases h3 : cOk (cOf z) = true
  · rw [if_pos h3]
    refine ⟨by simp only; omega, ?_, h3⟩
    show ((z.drop 1).take 16).length = 16
    rw [List.length_take, List.length_drop]
    omega
  · rw [if_neg h3] at h; cases h
/-- all that are written are read -/
theorem allW_some {α : Type} {ok : α → Bool} {f : α → List Int} {l : List α} {X : List Int} (h : allW ok f l = some X) : (∀ x ∈ l, ok x = true) ∧ l ≠ [] ∧ X = (l.map f).flatten := by
  unfold allW at h
  by_cases h1 : l.all ok = true ∧ l ≠ []
  · rw [if_pos h1] at h
    injection h with h; exact ⟨fun x hx => List.all_eq_true.1 h1.1 x hx, h1.2, h.symm⟩
  · rw [if_neg h1] at h; cases h
theorem flat_len_ge {α : Type} {f : α → List Int} : ∀ (l : List α), (∀ x ∈ l, 0 < (f x).length) → l.length ≤ ((l.map f).flatten).length
  | [], _ => Nat.zero_le _
  | x :: l, h => by
    have h1 := h x List.mem_cons_self; have h2 := flat_len_ge l (fun y hy => h y (List.mem_cons_of_mem _ hy)); simp only [List.map_cons, List.flatten_cons, List.length_append, List.length_cons]
    omega
theorem quants_back {qs : List Qt64} {X : List Int} (h : allW qOk qW qs = some X) (hl : ∀ q ∈ qs, q.2.length = 64) {n : Nat} (hn : X.length ≤ n) : readAll takeQ (n + 1) X = (0, qs) ∧ X.length = 65 * qs.length := by
  obtain ⟨h1, h2, rfl⟩ := allW_some h; have h0 : ∀ x ∈ qs, 0 < (qW x).length := fun x _ => by rw [qW_len]; omega
  have hle := flat_len_ge qs h0; refine ⟨readAll_back qs (n + 1) h2 (by omega) (fun x hx => ⟨h0 x hx, fun r => takeQ_back (h1 x hx) (hl x hx) r⟩), ?_⟩; rw [flat_len qW 65 qs (fun q _ => qW_len q)]; exact Nat.mul_comm _ _
theorem coders_back {cs : List Cdr} {X : List Int} (h : allW cOk cW cs = some X) (hl : ∀ c ∈ cs, c.2.2.1.length = 16) {n : Nat} (hn : X.length ≤ n) : readAll takeC (n + 1) X = (0, cs) := by
  obtain ⟨h1, h2, rfl⟩ := allW_some h; have h0 : ∀ x ∈ cs, 0 < (cW x).length := fun x hx => by rw [cW_len (hl x hx)]; omega
  have hle := flat_len_ge cs h0; exact readAll_back cs (n + 1) h2 (by omega) (fun x hx => ⟨h0 x hx, fun r => takeC_back (h1 x hx) (hl x hx) r⟩)
end Go.Proofs.Ytpjopeojeglogaa
