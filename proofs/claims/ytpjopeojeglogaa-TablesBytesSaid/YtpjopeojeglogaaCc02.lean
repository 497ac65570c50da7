/- Chapter 14 (plain): what bytes are read as; there and back. | Chapter 14 (plain): heads there and back. -/
import Derived.Test.YtpjopeojeglogaaCc01
namespace Go.Proofs.Ytpjopeojeglogaa
open Go.RowKit Tt
set_option linter.unusedVariables false

/-- what bytes are, one behind the other, to the end: the error, and the rows -/
def readAll {α : Type} (take : List Int → Int × α × Nat) : Nat → List Int → Int × List α
  | 0, _ => (3, [])
  | f + 1, b => if (take b).1 = 0 then (if b.length ≤ (take b).2.2 then (0, [(take b).2.1]) else (if (readAll take f (b.drop (take b).2.2)).1 = 0 then (0, (take b).2.1 :: (readAll take f (b.drop (take b).2.2)).2) else ((readAll take f (b.drop (take b).2.2)).1, []))) else ((take b).1, [])
def takeQ (b : List Int) : Int × Qt64 × Nat :=
  if b.length < 65 then (3, (0, []), 0) else if qOk (b.getD 0 0, frZ ((b.drop 1).take 64)) then (0, (b.getD 0 0, frZ ((b.drop 1).take 64)), 65) else (2, (0, []), 0)
def manyB (b : List Int) : Nat := (manyS ((b.drop 1).take 16) 16).toNat
def cOf (b : List Int) : Cdr := (b.getD 0 0 / 16, b.getD 0 0 % 16, (b.drop 1).take 16, (b.drop 17).take (manyB b))
def takeC (b : List Int) : Int × Cdr × Nat :=
  if b.length < 17 then (3, (0, 0, [], []), 0) else if b.length < 17 + manyB b then (3, (0, 0, [], []), 0) else if cOk (cOf b) then (0, cOf b, 17 + manyB b) else (2, (0, 0, [], []), 0)

theorem readAll_back {α : Type} {take : List Int → Int × α × Nat} {f : α → List Int} : ∀ (l : List α) (n : Nat), l ≠ [] → l.length ≤ n → (∀ x ∈ l, 0 < (f x).length ∧ ∀ r, take (f x ++ r) = (0, x, (f x).length)) → readAll take n ((l.map f).flatten) = (0, l)
  | [], _, h, _, _ => absurd rfl h
  | [x], 0, _, h, _ => by simp at h
  | [x], n + 1, _, _, h => by
    have h1 := (h x (by simp)).2 []; rw [List.append_nil] at h1
    simp [readAll, h1]
  | x :: y :: l, 0, _, h, _ => by simp at h
  | x :: y :: l, n + 1, _, hn, h => by
    obtain ⟨h0, h1⟩ := h x (by simp); have h2 := (h y (by simp)).1; have ih := readAll_back (y :: l) n (by simp) (by simpa using hn) (fun z hz => h z (List.mem_cons_of_mem _ hz)); have e : (((x :: y :: l).map f).flatten) = f x ++ (((y :: l).map f).flatten) := by simp
    have hl : 0 < ((((y :: l).map f).flatten)).length := by simp; omega
    rw [e]; unfold readAll; rw [h1]; simp only; rw [if_pos trivial, if_neg (by simp at hl ⊢; omega), List.drop_left, ih]
    simp
theorem readAll_of {α : Type} {take : List Int → Int × α × Nat} {ok : α → Prop} {f : α → List Int} (ht : ∀ b x k, take b = (0, x, k) → ok x ∧ k ≤ b.length ∧ f x = b.take k) :
    ∀ (n : Nat) (b : List Int) (l : List α), readAll take n b = (0, l) → l ≠ [] ∧ (∀ x ∈ l, ok x) ∧ (l.map f).flatten = b
  | 0, b, l, h => by simp [readAll] at h
  | n + 1, b, l, h => by
    unfold readAll at h
    by_cases h1 : (take b).1 = 0
    · rw [if_pos h1] at h
      obtain ⟨k1, k2, k3⟩ := ht b (take b).2.1 (take b).2.2 (by rw [← h1])
      by_cases h2 : b.length ≤ (take b).2.2
      · rw [if_pos h2] at h
        obtain rfl := (Prod.mk.inj h).2; refine ⟨by simp, by simpa using k1, ?_⟩; simp only [List.map_cons, List.map_nil, List.flatten_cons, List.flatten_nil, List.append_nil]; rw [k3, List.take_of_length_le h2]
      · rw [if_neg h2] at h
        by_cases h3 : (readAll take n (b.drop (take b).2.2)).1 = 0
        · rw [if_pos h3] at h
          obtain rfl := (Prod.mk.inj h).2; obtain ⟨m1, m2, m3⟩ := readAll_of ht n _ (readAll take n (b.drop (take b).2.2)).2 (by rw [← h3]); refine ⟨by simp, fun x hx => ?_, ?_⟩
          · rcases List.mem_cons.1 hx with rfl | hx
            · exact k1
            · exact m2 x hx
          · rw [List.map_cons, List.flatten_cons, m3, k3, List.take_append_drop]
        · rw [if_neg h3] at h
          exact absurd (Prod.mk.inj h).1 h3
    · rw [if_neg h1] at h
      exact absurd (Prod.mk.inj h).1 h1

theorem qW_len (q : Qt64) : (qW q).length = 65 := by simp [qW, toZ_len]
theorem takeQ_back {q : Qt64} (hq : qOk q = true) (hl : q.2.length = 64) (r : List Int) : takeQ (qW q ++ r) = (0, q, (qW q).length) := by
  have e1 : (qW q ++ r).getD 0 0 = q.1 := rfl
  have e2 : ((qW q ++ r).drop 1).take 64 = toZ q.2 := by
    show (toZ q.2 ++ r).take 64 = _
    rw [List.take_append_of_le_length (by rw [toZ_len]; omega), List.take_of_length_le (by rw [toZ_len]; omega)]
  unfold takeQ; rw [if_neg (by rw [List.length_append, qW_len]; omega), e1, e2, frZ_toZ hl, qW_len]
  show (if qOk q = true then _ else _) = _
  rw [if_pos hq]
theorem takeQ_of {b : List Int} {q : Qt64} {k : Nat} (h : takeQ b = (0, q, k)) : (qOk q = true ∧ q.2.length = 64) ∧ k ≤ b.length ∧ qW q = b.take k := by
  unfold takeQ at h
  split at h
  · cases h
  · rename_i h1
    split at h
    · rename_i h2
      obtain ⟨_, h4⟩ := Prod.mk.inj h; obtain ⟨rfl, rfl⟩ := Prod.mk.inj h4; refine ⟨⟨h2, frZ_len _⟩, by omega, ?_⟩; unfold qW; rw [toZ_frZ (by rw [List.length_take, List.length_drop]; omega)]
      cases b with
      | nil => simp at h1
      | cons x b => simp
    · cases h

theorem cOk_parts {c : Cdr} (h : cOk c = true) : (0 ≤ c.1 ∧ c.1 ≤ 1) ∧ (0 ≤ c.2.1 ∧ c.2.1 ≤ 3) ∧ hMay c.2.2.1 c.2.2.2 = true ∧ ∀ n ∈ c.2.2.1, n ≤ 255 := by
  unfold cOk at h; simp only [Bool.and_eq_true, decide_eq_true_eq, List.all_eq_true] at h; exact ⟨h.1.1.1, h.1.1.2, h.1.2, h.2⟩
theorem hMay_parts {c s : List Int} (h : hMay c s = true) : (∀ i, i < 16 → cntOk c i = true) ∧ (∀ i, i < s.length → symOk s i = true) ∧ manyS c 16 = s.length ∧ 1 ≤ manyS c 16 ∧ kraftS c 16 < 65536 := by
  unfold hMay endOk at h; simp only [Bool.and_eq_true, decide_eq_true_eq] at h; exact ⟨range_all h.1.1, range_all h.1.2, h.2⟩
theorem cW_len {c : Cdr} (hl : c.2.2.1.length = 16) : (cW c).length = 17 + c.2.2.2.length := by simp [cW, hl]; omega
theorem cOf_back {c : Cdr} (hc : cOk c = true) (hl : c.2.2.1.length = 16) (r : List Int) : manyB (cW c ++ r) = c.2.2.2.length ∧ cOf (cW c ++ r) = c := by
  obtain ⟨h1, h2, h3, _⟩ := cOk_parts hc; have e1 : (cW c ++ r).getD 0 0 = 16 * c.1 + c.2.1 := rfl
  have e2 : ((cW c ++ r).drop 1).take 16 = c.2.2.1 := by
    show ((c.2.2.1 ++ c.2.2.2) ++ r).take 16 = _
    rw [List.append_assoc, List.take_append_of_le_length (by omega), List.take_of_length_le (by omega)]
  have hm : manyB (cW c ++ r) = c.2.2.2.length := by
    unfold manyB; rw [e2, (hMay_parts h3).2.2.1]
    simp
  refine ⟨hm, ?_⟩
  have e3 : ((cW c ++ r).drop 17).take (manyB (cW c ++ r)) = c.2.2.2 := by
    rw [hm]
    have : (cW c ++ r).drop 17 = c.2.2.2 ++ r := by
      show ((c.2.2.1 ++ c.2.2.2) ++ r).drop 16 = _
      rw [List.append_assoc, ← hl, List.drop_left]
    rw [this, List.take_left]
  unfold cOf; rw [e1, e2, e3]; obtain ⟨a, b, cs, ss⟩ := c; simp only at h1 h2 ⊢; rw [show (16 * a + b) / 16 = a by omega, show (16 * a + b) % 16 = b by omega]
theorem takeC_back {c : Cdr} (hc : cOk c = true) (hl : c.2.2.1.length = 16) (r : List Int) : takeC (cW c ++ r) = (0, c, (cW c).length) := by
  obtain ⟨h1, h2⟩ := cOf_back hc hl r; unfold takeC; rw [if_neg (by rw [List.length_append, cW_len hl]; omega), h1, if_neg (by rw [List.length_append, cW_len hl]; omega), h2, if_pos hc, cW_len hl]
theorem takeC_of {b : List Int} {c : Cdr} {k : Nat} (h : takeC b = (0, c, k)) : (cOk c = true ∧ c.2.2.1.length = 16) ∧ k ≤ b.length ∧ cW c = b.take k := by
  unfold takeC at h
  split at h
  · cases h
  · rename_i h0
    split at h
    · cases h
    · rename_i h1
      split at h
      · rename_i h2
        obtain ⟨_, h4⟩ := Prod.mk.inj h; obtain ⟨rfl, rfl⟩ := Prod.mk.inj h4; refine ⟨⟨h2, by show ((b.drop 1).take 16).length = 16; rw [List.length_take, List.length_drop]; omega⟩, by omega, ?_⟩
        cases b with
        | nil => simp at h0
        | cons x b =>
          show (16 * (x / 16) + x % 16) :: (b.take 16 ++ (b.drop 16).take (manyB (x :: b))) = (x :: b).take (17 + manyB (x :: b))
          rw [show 16 * (x / 16) + x % 16 = x by omega, show 17 + manyB (x :: b) = (16 + manyB (x :: b)) + 1 by omega, List.take_succ_cons, List.take_add]
      · cases h
/-- a frame's bytes: the error, and the frame -/
def cmpsOf : Nat → List Int → List Cmp4
  | 0, _ => []
  | n + 1, b => (b.getD 0 0, b.getD 1 0 / 16, b.getD 1 0 % 16, b.getD 2 0) :: cmpsOf n (b.drop 3)
def nB (b : List Int) (i : Nat) : Nat := (b.getD i 0).toNat
def rfS (b : List Int) : Int × Int × Int × List Cmp4 :=
  if b.length < 6 then (3, 0, 0, []) else if b.getD 0 0 ≠ 8 then (2, 0, 0, []) else if b.length < 6 + 3 * nB b 5 then (3, 0, 0, []) else if 6 + 3 * nB b 5 < b.length then (2, 0, 0, [])
  else if frmE (256 * b.getD 3 0 + b.getD 4 0) (256 * b.getD 1 0 + b.getD 2 0) (cmpsOf (nB b 5) (b.drop 6)) = 0 then (0, 256 * b.getD 3 0 + b.getD 4 0, 256 * b.getD 1 0 + b.getD 2 0, cmpsOf (nB b 5) (b.drop 6))
  else (frmE (256 * b.getD 3 0 + b.getD 4 0) (256 * b.getD 1 0 + b.getD 2 0) (cmpsOf (nB b 5) (b.drop 6)), 0, 0, [])
def usesOf : Nat → List Int → List Use3
  | 0, _ => []
  | n + 1, b => (b.getD 0 0, b.getD 1 0 / 16, b.getD 1 0 % 16) :: usesOf n (b.drop 2)
def rhS (b : List Int) : Int × List Use3 :=
  if b.length < 1 ∨ b.length < 4 + 2 * nB b 0 then (3, []) else if usesOk (usesOf (nB b 0) (b.drop 1)) && (b.drop (1 + 2 * nB b 0) == [0, 63, 0]) then (0, usesOf (nB b 0) (b.drop 1)) else (2, [])
end Go.Proofs.Ytpjopeojeglogaa

namespace Go.Proofs.Ytpjopeojeglogaa
open Go.RowKit Tt
set_option linter.unusedVariables false
set_option linter.unusedSimpArgs false

theorem cmpsOf_len : ∀ n b, (cmpsOf n b).length = n
  | 0, _ => rfl
  | n + 1, b => by simp [cmpsOf, cmpsOf_len n]
theorem cmps_of : ∀ (n : Nat) (b : List Int), Byt b → 3 * n ≤ b.length → ((cmpsOf n b).map fun c => [c.1, 16 * c.2.1 + c.2.2.1, c.2.2.2]).flatten = b.take (3 * n)
  | 0, b, _, _ => by simp [cmpsOf]
  | n + 1, b, hb, hl => by
    match b, hl with
    | x :: y :: z :: b, hl =>
      simp only [cmpsOf, List.getD_cons_zero, List.getD_cons_succ, List.map_cons, List.flatten_cons, List.drop_succ_cons, List.drop_zero]; rw [cmps_of n b (fun u hu => hb u (by simp [hu])) (by simp at hl; omega), show 3 * (n + 1) = 3 * n + 1 + 1 + 1 by omega, List.take_succ_cons, List.take_succ_cons, List.take_succ_cons]; simp only [List.cons_append, List.nil_append]; rw [show 16 * (y / 16) + y % 16 = y by omega]
theorem frmE_ok {w h : Int} {l : List Cmp4} (hf : frmE w h l = 0) : l.all cmpOk = true ∧ idOk (l.map (·.1)) = true ∧ 1 ≤ w ∧ w ≤ 4096 ∧ 1 ≤ h ∧ h ≤ 4096 := by
  unfold frmE at hf
  split at hf
  · rename_i h1
    simp only [Bool.and_eq_true] at h1
    split at hf
    · rename_i h2; exact ⟨h1.1, h1.2, h2⟩
    · cases hf
  · cases hf
theorem idOk_len {l : List Int} (h : idOk l = true) : 1 ≤ l.length ∧ l.length ≤ 4 := by
  unfold idOk at h; simp only [Bool.and_eq_true, decide_eq_true_eq] at h; exact h.2
theorem rfS_of {b : List Int} {w h : Int} {l : List Cmp4} (hb : Byt b) (hr : rfS b = (0, w, h, l)) : frmE w h l = 0 ∧ frmW w h l = b := by
  unfold rfS at hr
  split at hr
  · cases hr
  split at hr
  · cases hr
  split at hr
  · cases hr
  split at hr
  · cases hr
  rename_i q1 q2 q3 q4
  split at hr
  · rename_i q5
    simp only [Prod.mk.injEq, true_and] at hr; obtain ⟨rfl, rfl, rfl⟩ := hr; refine ⟨q5, ?_⟩; have hn : b.length = 6 + 3 * nB b 5 := by omega
    have hk := cmps_of (nB b 5) (b.drop 6) (hb.drop 6) (by rw [List.length_drop]; omega); rw [List.take_of_length_le (by rw [List.length_drop]; omega)] at hk; have g0 := hb.get 0; have g1 := hb.get 1; have g2 := hb.get 2; have g3 := hb.get 3; have g4 := hb.get 4; have g5 := hb.get 5; have q2' : b.getD 0 0 = 8 := Classical.not_not.1 q2; unfold frmW; rw [cmpsOf_len, hk]; have h5 : ((nB b 5 : Nat) : Int) = b.getD 5 0 := by unfold nB; omega
    rw [h5, show (256 * b.getD 1 0 + b.getD 2 0) / 256 = b.getD 1 0 by omega, show (256 * b.getD 1 0 + b.getD 2 0) % 256 = b.getD 2 0 by omega, show (256 * b.getD 3 0 + b.getD 4 0) / 256 = b.getD 3 0 by omega, show (256 * b.getD 3 0 + b.getD 4 0) % 256 = b.getD 4 0 by omega, ← q2']
    match b, hn with
    | x0 :: x1 :: x2 :: x3 :: x4 :: x5 :: b, _ => rfl
  · rename_i q5
    exact absurd (Prod.mk.inj hr).1 q5
theorem usesOf_len : ∀ n b, (usesOf n b).length = n
  | 0, _ => rfl
  | n + 1, b => by simp [usesOf, usesOf_len n]
theorem uses_of : ∀ (n : Nat) (b : List Int), Byt b → 2 * n ≤ b.length → ((usesOf n b).map fun u => [u.1, 16 * u.2.1 + u.2.2]).flatten = b.take (2 * n)
  | 0, b, _, _ => by simp [usesOf]
  | n + 1, b, hb, hl => by
    match b, hl with
    | x :: y :: b, hl =>
      simp only [usesOf, List.getD_cons_zero, List.getD_cons_succ, List.map_cons, List.flatten_cons, List.drop_succ_cons, List.drop_zero]; rw [uses_of n b (fun u hu => hb u (by simp [hu])) (by simp at hl; omega), show 2 * (n + 1) = 2 * n + 1 + 1 by omega, List.take_succ_cons, List.take_succ_cons]; simp only [List.cons_append, List.nil_append]; rw [show 16 * (y / 16) + y % 16 = y by omega]
theorem usesOk_parts {l : List Use3} (h : usesOk l = true) : l.all useOk = true ∧ 1 ≤ l.length ∧ l.length ≤ 4 := by
  unfold usesOk at h; simp only [Bool.and_eq_true] at h; have := idOk_len h.2; rw [List.length_map] at this; exact ⟨h.1, this⟩
theorem rhS_of {b : List Int} {l : List Use3} (hb : Byt b) (hr : rhS b = (0, l)) : usesOk l = true ∧ headW l = b := by
  unfold rhS at hr
  split at hr
  · cases hr
  rename_i q1
  split at hr
  · rename_i q2
    obtain ⟨_, rfl⟩ := Prod.mk.inj hr; simp only [Bool.and_eq_true, beq_iff_eq] at q2; refine ⟨q2.1, ?_⟩; have g0 := hb.get 0; have hk := uses_of (nB b 0) (b.drop 1) (hb.drop 1) (by rw [List.length_drop]; omega); unfold headW; rw [usesOf_len, hk, show ((nB b 0 : Nat) : Int) = b.getD 0 0 by unfold nB; omega]; have h3 := q2.2; rw [← List.drop_drop] at h3; rw [← h3, List.cons_append, List.take_append_drop]
    match b, q1 with
    | [], q1 => simp at q1
    | x :: b, _ => rfl
  · cases hr
end Go.Proofs.Ytpjopeojeglogaa
