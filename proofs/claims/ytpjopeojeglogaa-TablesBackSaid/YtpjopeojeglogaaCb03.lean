/- Chapter 14 (plain): what bytes are read as; there and back. | Chapter 14 (plain): heads there and back. -/
import Derived.Test.YtpjopeojeglogaaCb02
namespace Go.Proofs.Ytpjopeojeglogaa
open Go.RowKit Tt
set_option linter.unusedVariables false

/-- what bytes are, one behind the other, to the end: the error, and the rows -/
def readAll {α : Type} (take : List Int → Int × α × Nat) : Nat → List Int → Int × List α
  | 0, _ => (3, [])
  | f + 1, b => if (take b).1 = 0 then (if b.length ≤ (take b).2.2 then (0, [(take b).2.1]) else (if (readAll take f (b.drop (take b).2.2)).1 = 0 then (0, (take b).2.1 :: (readAll take f (b.drop (take b).2.2)).2) else ((readAll take f (b.drop (take b).2.2)).1, []))) else ((take b).1, [])
def takeQ (b : List Int) : Int × Qt64 × Nat :=
  if b.length < 65 then (3, (0, []), 0) else if qOk (b.getD 0 0, frZ ((b.drop 1).take 64)) then (0, (b.getD 0 0, frZ ((b.drop 1).take 64)), 65) else (2, (0, []), 0)
def manyB (b : List Int) : Nat := (manyS ((b.drop 1).take 16) 16).toNat
def cOf (b : List Int) : Cdr := (b.getD 0 0 / 16, b.getD 0 0 % 16, (b.drop 1).take 16, (b.drop 17).take (manyB b))
def takeC (b : List Int) : Int × Cdr × Nat :=
  if b.length < 17 then (3, (0, 0, [], []), 0) else if b.length < 17 + manyB b then (3, (0, 0, [], []), 0) else if cOk (cOf b) then (0, cOf b, 17 + manyB b) else (2, (0, 0, [], []), 0)

theorem readAll_back {α : Type} {take : List Int → Int × α × Nat} {f : α → List Int} : ∀ (l : List α) (n : Nat), l ≠ [] → l.length ≤ n → (∀ x ∈ l, 0 < (f x).length ∧ ∀ r, take (f x ++ r) = (0, x, (f x).length)) → readAll take n ((l.map f).flatten) = (0, l)
  | [], _, h, _, _ => absurd rfl h
  | [x], 0, _, h, _ => by simp at h
  | [x], n + 1, _, _, h => by
    have h1 := (h x (by simp)).2 []; rw [List.append_nil] at h1
    simp [readAll, h1]
  | x :: y :: l, 0, _, h, _ => by simp at h
  | x :: y :: l, n + 1, _, hn, h => by
    obtain ⟨h0, h1⟩ := h x (by simp); have h2 := (h y (by simp)).1; have ih := readAll_back (y :: l) n (by simp) (by simpa using hn) (fun z hz => h z (List.mem_cons_of_mem _ hz)); have e : (((x :: y :: l).map f).flatten) = f x ++ (((y :: l).map f).flatten) := by simp
    have hl : 0 < ((((y :: l).map f).flatten)).length := by simp; omega
    rw [e]; unfold readAll; rw [h1]; simp only; rw [if_pos trivial, if_neg (by simp at hl ⊢; omega), List.drop_left, ih]
    simp
theorem qW_len (q : Qt64) : (qW q).length = 65 := by simp [qW, toZ_len]
theorem takeQ_back {q : Qt64} (hq : qOk q = true) (hl : q.2.length = 64) (r : List Int) : takeQ (qW q ++ r) = (0, q, (qW q).length) := by
  have e1 : (qW q ++ r).getD 0 0 = q.1 := rfl
  have e2 : ((qW q ++ r).drop 1).take 64 = toZ q.2 := by
    show (toZ q.2 ++ r).take 64 = _
    rw [List.take_append_of_le_length (by rw [toZ_len]; omega), List.take_of_length_le (by rw [toZ_len]; omega)]
  unfold takeQ; rw [if_neg (by rw [List.length_append, qW_len]; omega), e1, e2, frZ_toZ hl, qW_len]
  show (if qOk q = true then _ else _) = _
  rw [if_pos hq]
theorem cOk_parts {c : Cdr} (h : cOk c = true) : (0 ≤ c.1 ∧ c.1 ≤ 1) ∧ (0 ≤ c.2.1 ∧ c.2.1 ≤ 3) ∧ hMay c.2.2.1 c.2.2.2 = true ∧ ∀ n ∈ c.2.2.1, n ≤ 255 := by
  unfold cOk at h; simp only [Bool.and_eq_true, decide_eq_true_eq, List.all_eq_true] at h; exact ⟨h.1.1.1, h.1.1.2, h.1.2, h.2⟩
theorem hMay_parts {c s : List Int} (h : hMay c s = true) : (∀ i, i < 16 → cntOk c i = true) ∧ (∀ i, i < s.length → symOk s i = true) ∧ manyS c 16 = s.length ∧ 1 ≤ manyS c 16 ∧ kraftS c 16 < 65536 := by
  unfold hMay endOk at h; simp only [Bool.and_eq_true, decide_eq_true_eq] at h; exact ⟨range_all h.1.1, range_all h.1.2, h.2⟩
theorem cW_len {c : Cdr} (hl : c.2.2.1.length = 16) : (cW c).length = 17 + c.2.2.2.length := by simp [cW, hl]; omega
theorem cOf_back {c : Cdr} (hc : cOk c = true) (hl : c.2.2.1.length = 16) (r : List Int) : manyB (cW c ++ r) = c.2.2.2.length ∧ cOf (cW c ++ r) = c := by
  obtain ⟨h1, h2, h3, _⟩ := cOk_parts hc; have e1 : (cW c ++ r).getD 0 0 = 16 * c.1 + c.2.1 := rfl
  have e2 : ((cW c ++ r).drop 1).take 16 = c.2.2.1 := by
    show ((c.2.2.1 ++ c.2.2.2) ++ r).take 16 = _
    rw [List.append_assoc, List.take_append_of_le_length (by omega), List.take_of_length_le (by omega)]
  have hm : manyB (cW c ++ r) = c.2.2.2.length := by
    unfold manyB; rw [e2, (hMay_parts h3).2.2.1]
    simp
  refine ⟨hm, ?_⟩
  have e3 : ((cW c ++ r).drop 17).take (manyB (cW c ++ r)) = c.2.2.2 := by
    rw [hm]
    have : (cW c ++ r).drop 17 = c.2.2.2 ++ r := by
      show ((c.2.2.1 ++ c.2.2.2) ++ r).drop 16 = _
      rw [List.append_assoc, ← hl, List.drop_left]
    rw [this, List.take_left]
  unfold cOf; rw [e1, e2, e3]; obtain ⟨a, b, cs, ss⟩ := c; simp only at h1 h2 ⊢; rw [show (16 * a + b) / 16 = a by omega, show (16 * a + b) % 16 = b by omega]
theorem takeC_back {c : Cdr} (hc : cOk c = true) (hl : c.2.2.1.length = 16) (r : List Int) : takeC (cW c ++ r) = (0, c, (cW c).length) := by
  obtain ⟨h1, h2⟩ := cOf_back hc hl r; unfold takeC; rw [if_neg (by rw [List.length_append, cW_len hl]; omega), h1, if_neg (by rw [List.length_append, cW_len hl]; omega), h2, if_pos hc, cW_len hl]
/-- a frame's bytes: the error, and the frame -/
def cmpsOf : Nat → List Int → List Cmp4
  | 0, _ => []
  | n + 1, b => (b.getD 0 0, b.getD 1 0 / 16, b.getD 1 0 % 16, b.getD 2 0) :: cmpsOf n (b.drop 3)
def nB (b : List Int) (i : Nat) : Nat := (b.getD i 0).toNat
def rfS (b : List Int) : Int × Int × Int × List Cmp4 :=
  if b.length < 6 then (3, 0, 0, []) else if b.getD 0 0 ≠ 8 then (2, 0, 0, []) else if b.length < 6 + 3 * nB b 5 then (3, 0, 0, []) else if 6 + 3 * nB b 5 < b.length then (2, 0, 0, [])
  else if frmE (256 * b.getD 3 0 + b.getD 4 0) (256 * b.getD 1 0 + b.getD 2 0) (cmpsOf (nB b 5) (b.drop 6)) = 0 then (0, 256 * b.getD 3 0 + b.getD 4 0, 256 * b.getD 1 0 + b.getD 2 0, cmpsOf (nB b 5) (b.drop 6))
  else (frmE (256 * b.getD 3 0 + b.getD 4 0) (256 * b.getD 1 0 + b.getD 2 0) (cmpsOf (nB b 5) (b.drop 6)), 0, 0, [])
def usesOf : Nat → List Int → List Use3
  | 0, _ => []
  | n + 1, b => (b.getD 0 0, b.getD 1 0 / 16, b.getD 1 0 % 16) :: usesOf n (b.drop 2)
def rhS (b : List Int) : Int × List Use3 :=
  if b.length < 1 ∨ b.length < 4 + 2 * nB b 0 then (3, []) else if usesOk (usesOf (nB b 0) (b.drop 1)) && (b.drop (1 + 2 * nB b 0) == [0, 63, 0]) then (0, usesOf (nB b 0) (b.drop 1)) else (2, [])
end Go.Proofs.Ytpjopeojeglogaa

namespace Go.Proofs.Ytpjopeojeglogaa
open Go.RowKit Tt
set_option linter.unusedVariables false
set_option linter.unusedSimpArgs false

theorem cmps_back : ∀ (l : List Cmp4) (r : List Int), l.all cmpOk = true → cmpsOf l.length ((l.map fun c => [c.1, 16 * c.2.1 + c.2.2.1, c.2.2.2]).flatten ++ r) = l
  | [], _, _ => rfl
  | c :: l, r, h => by
    simp only [List.all_cons, Bool.and_eq_true] at h; have hc := h.1; unfold cmpOk at hc; simp only [decide_eq_true_eq] at hc; obtain ⟨a, x, y, z⟩ := c; simp only at hc; simp only [List.map_cons, List.flatten_cons, List.length_cons, cmpsOf, List.cons_append, List.nil_append, List.getD_cons_zero, List.getD_cons_succ, List.drop_succ_cons, List.drop_zero, List.append_assoc]; rw [cmps_back l r h.2, show (16 * x + y) / 16 = x by omega, show (16 * x + y) % 16 = y by omega]
theorem cmps_bytes_len (l : List Cmp4) : ((l.map fun c => [c.1, 16 * c.2.1 + c.2.2.1, c.2.2.2]).flatten).length = 3 * l.length := by
  induction l with
  | nil => rfl
  | cons c l ih => simp only [List.map_cons, List.flatten_cons, List.length_append, List.length_cons, List.length_nil, ih]; omega
theorem cmpsOf_len : ∀ n b, (cmpsOf n b).length = n
  | 0, _ => rfl
  | n + 1, b => by simp [cmpsOf, cmpsOf_len n]
theorem frmE_ok {w h : Int} {l : List Cmp4} (hf : frmE w h l = 0) : l.all cmpOk = true ∧ idOk (l.map (·.1)) = true ∧ 1 ≤ w ∧ w ≤ 4096 ∧ 1 ≤ h ∧ h ≤ 4096 := by
  unfold frmE at hf
  split at hf
  · rename_i h1
    simp only [Bool.and_eq_true] at h1
    split at hf
    · rename_i h2; exact ⟨h1.1, h1.2, h2⟩
    · cases hf
  · cases hf
theorem idOk_len {l : List Int} (h : idOk l = true) : 1 ≤ l.length ∧ l.length ≤ 4 := by
  unfold idOk at h; simp only [Bool.and_eq_true, decide_eq_true_eq] at h; exact h.2
theorem frmW_len (w h : Int) (l : List Cmp4) : (frmW w h l).length = 6 + 3 * l.length := by
  unfold frmW; rw [List.length_append, cmps_bytes_len]
  rfl
theorem rfS_back {w h : Int} {l : List Cmp4} (hf : frmE w h l = 0) : rfS (frmW w h l) = (0, w, h, l) := by
  obtain ⟨h1, h2, h3⟩ := frmE_ok hf; have hl := idOk_len h2; rw [List.length_map] at hl; have e0 : (frmW w h l).getD 0 0 = 8 := rfl; have e1 : (frmW w h l).getD 1 0 = h / 256 := rfl; have e2 : (frmW w h l).getD 2 0 = h % 256 := rfl; have e3 : (frmW w h l).getD 3 0 = w / 256 := rfl; have e4 : (frmW w h l).getD 4 0 = w % 256 := rfl; have e5 : nB (frmW w h l) 5 = l.length := by unfold nB; show ((l.length : Int)).toNat = _; simp
  have e6 : cmpsOf l.length ((frmW w h l).drop 6) = l := by
    have := cmps_back l [] h1; rw [List.append_nil] at this; exact this
  unfold rfS; rw [e0, e1, e2, e3, e4, e5, e6, frmW_len, if_neg (by omega), if_neg (by simp), if_neg (by omega), if_neg (by omega), show 256 * (w / 256) + w % 256 = w by omega, show 256 * (h / 256) + h % 256 = h by omega, if_pos hf]
theorem use_back : ∀ (l : List Use3) (r : List Int), l.all useOk = true → usesOf l.length ((l.map fun u => [u.1, 16 * u.2.1 + u.2.2]).flatten ++ r) = l
  | [], _, _ => rfl
  | c :: l, r, h => by
    simp only [List.all_cons, Bool.and_eq_true] at h; have hc := h.1; unfold useOk at hc; simp only [decide_eq_true_eq] at hc; obtain ⟨a, x, y⟩ := c; simp only at hc; simp only [List.map_cons, List.flatten_cons, List.length_cons, usesOf, List.cons_append, List.nil_append, List.getD_cons_zero, List.getD_cons_succ, List.drop_succ_cons, List.drop_zero, List.append_assoc]; rw [use_back l r h.2, show (16 * x + y) / 16 = x by omega, show (16 * x + y) % 16 = y by omega]
theorem use_bytes_len (l : List Use3) : ((l.map fun u => [u.1, 16 * u.2.1 + u.2.2]).flatten).length = 2 * l.length := by
  induction l with
  | nil => rfl
  | cons c l ih => simp only [List.map_cons, List.flatten_cons, List.length_append, List.length_cons, List.length_nil, ih]; omega
theorem usesOf_len : ∀ n b, (usesOf n b).length = n
  | 0, _ => rfl
  | n + 1, b => by simp [usesOf, usesOf_len n]
theorem usesOk_parts {l : List Use3} (h : usesOk l = true) : l.all useOk = true ∧ 1 ≤ l.length ∧ l.length ≤ 4 := by
  unfold usesOk at h; simp only [Bool.and_eq_true] at h; have := idOk_len h.2; rw [List.length_map] at this; exact ⟨h.1, this⟩
theorem rhS_back {l : List Use3} (h : usesOk l = true) : rhS (headW l) = (0, l) := by
  obtain ⟨h1, h2, h3⟩ := usesOk_parts h; have e0 : nB (headW l) 0 = l.length := by unfold nB headW; show ((l.length : Int)).toNat = _; simp
  have el : (headW l).length = 4 + 2 * l.length := by
    unfold headW; simp only [List.cons_append, List.length_cons, List.length_append, use_bytes_len, List.length_nil]
    omega
  have ed : (headW l).drop 1 = (l.map fun u => [u.1, 16 * u.2.1 + u.2.2]).flatten ++ [0, 63, 0] := rfl
  have e2 : (headW l).drop (1 + 2 * l.length) = [0, 63, 0] := by
    rw [← List.drop_drop, ed, ← use_bytes_len, List.drop_left]
  unfold rhS; rw [e0, el, if_neg (by omega), ed, use_back l _ h1, h, e2]
  rfl
end Go.Proofs.Ytpjopeojeglogaa
