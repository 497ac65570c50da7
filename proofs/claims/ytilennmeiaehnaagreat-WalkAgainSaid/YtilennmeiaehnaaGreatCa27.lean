/- Chapter 22, the plain walk: what is read depends on the bytes that are taken alone; what holds of all spots. | Chapter 21: two trees that have the shapes have the same bytes just if they are the same; the other order. Plain. | Chapter 22: the plain law of WalkBack. -/
import Derived.Test.YtilennmeiaehnaaGreatCa26
namespace Go.Proofs.YtilennmeiaehnaaGreat
open Go.RowKit Tt
set_option linter.unusedVariables false
set_option linter.unusedSimpArgs false

theorem loopS_keep {α σ : Type} {step : σ → α → Except Int σ} {P : σ → Prop} (hs : ∀ s x s', step s x = .ok s' → P s → P s') : ∀ {l : List α} {s s' : σ}, loopS step l s = .ok s' → P s → P s'
  | [], s, s', h, hp => by
    injection h with h; subst h; exact hp
  | x :: r, s, s', h, hp => by
    rw [loopS_cons] at h
    cases hx : step s x with
    | error e => rw [hx] at h; cases h
    | ok s1 =>
      rw [hx] at h; exact loopS_keep hs h (hs _ _ _ hx hp)
/-- what taking keeps -/
structure Keeps (n : Nat) (P : St → Prop) : Prop where
  take : ∀ x s s', 1 ≤ x.2.2.2.2 → takeS n x s = .ok s' → P s → P s'
  free : ∀ s s', s'.spots = s.spots → P s → P s'
section
variable {z : List Int} {P : St → Prop} (hP : Keeps z.length P)
include hP
theorem entriesS_keeps {o p no : Int} {s : St} {l : List Ent} {s' : St} (h : entriesS z o p no s = .ok (l, s')) (hi : P s) : P s' := by
  unfold entriesS at h
  split at h
  · split at h
    · rename_i h0
      cases ht : takeS z.length (2, no, 0, p, 6 + 12 * getV z p 2 o) s with
      | error e => rw [ht] at h; cases h
      | ok s1 =>
        rw [ht] at h; simp only at h
        split at h
        · injection h with h
          injection h with h1 h2; subst h2; exact hP.take _ _ _ (by show 1 ≤ 6 + 12 * getV z p 2 o; omega) ht hi
        · cases h
    · cases h
  · cases h
theorem valueS_keeps {o : Int} {x : Ent} {no : Int} {s : St} {v : Tgs} {s' : St} (h : valueS z o x no s = .ok (v, s')) (hi : P s) : P s' := by
  unfold valueS at h
  split at h
  · split at h
    · rename_i h0
      cases ht : takeS z.length (3, no, x.1, x.2.2.2, outS x.2.1 x.2.2.1) s with
      | error e => rw [ht] at h; cases h
      | ok s1 =>
        rw [ht] at h; simp only at h
        cases hv : ofS x.2.1 x.2.2.1 (z.drop x.2.2.2.toNat) o with
        | none => rw [hv] at h; cases h
        | some d =>
          rw [hv] at h; injection h with h; injection h with h1 h2; subst h2; exact hP.take _ _ _ (by show 1 ≤ outS x.2.1 x.2.2.1; omega) ht hi
    · cases hv : inS x o with
      | none => rw [hv] at h; cases h
      | some d =>
        rw [hv] at h; injection h with h; injection h with h1 h2; subst h2; exact hP.free s _ rfl hi
  · cases h
theorem stepT_keeps {o : Int} {sh : Shp} {no : Int} {acc acc' : List Tgs × St} {x : Ent} (h : stepT z o sh no acc x = .ok acc') (hi : P acc.2) : P acc'.2 := by
  unfold stepT at h
  split at h
  · split at h
    · injection h with h
      subst h; exact hi
    · cases h
  · cases hv : valueS z o x no acc.2 with
    | error e => rw [hv] at h; cases h
    | ok r =>
      obtain ⟨v, s'⟩ := r; rw [hv] at h; injection h with h; subst h; exact valueS_keeps hP hv hi
theorem blobS_keeps {sh : Shp} {l : List Ent} {no : Int} {s : St} {b : List Int} {s' : St} (h : blobS z sh l no s = .ok (b, s')) (hi : P s) : P s' := by
  unfold blobS at h
  split at h
  · split at h
    · rename_i x y _ h0
      cases ht : takeS z.length (4, no, 0, x.2.2.2, y.2.2.2) s with
      | error e => rw [ht] at h; cases h
      | ok s1 =>
        rw [ht] at h; injection h with h; injection h with h1 h2; subst h2; exact hP.take _ _ _ (by show 1 ≤ y.2.2.2; omega) ht hi
    · cases h
  · injection h with h
    injection h with h1 h2; subst h2; exact hi
theorem dirS_keeps {o : Int} {L : List Shp} : ∀ {f : Nat} {p sh : Int} {s : St} {r : DirT f × Int} {s' : St}, dirS z o L f p sh s = .ok (r, s') → P s → P s'
  | 0, _, _, _, _, _, h, _ => by cases h
  | f + 1, p, sh, s, r, s', h, hi => by
    rw [dirS_succ] at h
    cases hE : entriesS z o p s.no { s with no := IntKind.i64.wrap (s.no + 1) } with
    | error e => rw [hE] at h; cases h
    | ok q =>
      obtain ⟨l, s1⟩ := q; rw [hE] at h; simp only at h; have i1 := entriesS_keeps hP hE (hP.free s _ rfl hi)
      cases hT : loopS (stepT z o (L.getD sh.toNat shp0) s.no) l ([], s1) with
      | error e => rw [hT] at h; cases h
      | ok q =>
        obtain ⟨tags, s2⟩ := q; rw [hT] at h; simp only at h; have i2 : P s2 := loopS_keep (P := fun a : List Tgs × St => P a.2) (fun _ _ _ h hp => stepT_keeps hP h hp) hT i1
        split at h
        · cases h
        cases hD : loopS (stepD (dirS z o L f) (L.getD sh.toNat shp0)) l ([], s2) with
        | error e => rw [hD] at h; cases h
        | ok q =>
          obtain ⟨subs, s3⟩ := q; rw [hD] at h; simp only at h
          have i3 : P s3 := loopS_keep (P := fun a : List (Int × DirT f) × St => P a.2) (fun acc x acc' h hp => by
            unfold stepD at h
            split at h
            · cases hr : dirS z o L f x.2.2.2 ((L.getD sh.toNat shp0).1.getD (fst (fun y => y.1 == x.1) (L.getD sh.toNat shp0).1).toNat (0, 0)).2 acc.2 with
              | error e => rw [hr] at h; cases h
              | ok q =>
                obtain ⟨⟨d, nx⟩, s9⟩ := q; rw [hr] at h; simp only at h
                split at h
                · injection h with h
                  subst h; exact dirS_keeps hr hp
                · cases h
            · injection h with h
              subst h; exact hp) hD i2
          cases hB : blobS z (L.getD sh.toNat shp0) l s.no s3 with
          | error e => rw [hB] at h; cases h
          | ok q =>
            obtain ⟨blob, s4⟩ := q; rw [hB] at h; injection h with h; injection h with h1 h2; subst h2; exact blobS_keeps hP hB i3
theorem chainG_keeps {o : Int} {L : List Shp} {g : Nat} : ∀ {n : Nat} {acc : List (DirT g)} {p sh : Int} {s : St} {r : List (DirT g)} {s' : St}, chainG z o L g n acc p sh s = .ok (r, s') → P s → P s'
  | 0, _, _, _, _, _, _, h, _ => by cases h
  | n + 1, acc, p, sh, s, r, s', h, hi => by
    unfold chainG at h
    split at h
    · split at h
      · cases hr : dirS z o L g p sh s with
        | error e => rw [hr] at h; cases h
        | ok q =>
          obtain ⟨⟨d, nx⟩, s9⟩ := q; rw [hr] at h; exact chainG_keeps h (dirS_keeps hP hr hi)
      · cases h
    · injection h with h
      injection h with h1 h2; subst h2; exact hi
theorem readG_keeps {L : List Shp} {g : Nat} {r : List (DirT g)} {s' : St} (h : readG z L g = .ok (r, s')) (h0 : P ⟨[], 0, 0⟩) : P s' := by
  unfold readG at h
  split at h
  · cases hh : headS z with
    | error e => rw [hh] at h; cases h
    | ok s =>
      rw [hh] at h; refine chainG_keeps hP h ?_; unfold headS at hh
      split at hh
      · split at hh
        · exact hP.take _ _ _ (by decide) hh h0
        · cases hh
      · cases hh
  · cases h
end
theorem takeS_ok {n : Nat} {x : Spt} {s s' : St} (h : takeS n x s = .ok s') : fitB n x = true ∧ freeB s x.2.2.2.1 x.2.2.2.2.toNat = true ∧ s' = { s with spots := s.spots ++ [x] } := by
  unfold takeS at h
  split at h
  · rename_i h1
    split at h
    · rename_i h2
      injection h with h; exact ⟨h1, h2, h.symm⟩
    · cases h
  · cases h
/-- all that is taken of one is taken of the other -/
def SubT (s S : St) : Prop := ∀ k : Nat, takenB s k = true → takenB S k = true
theorem SubT.refl (s : St) : SubT s s := fun _ h => h
theorem SubT.trans {a b c : St} (h : SubT a b) (h2 : SubT b c) : SubT a c := fun k hk => h2 k (h k hk)
theorem takenB_of {s s' : St} (h : s'.spots = s.spots) (k : Int) : takenB s' k = takenB s k := by unfold takenB; rw [h]
theorem keeps_sub (n : Nat) (s0 : St) : Keeps n (SubT s0) := ⟨fun x s s' _ h hp k hk => by
  obtain ⟨_, _, rfl⟩ := takeS_ok h; have h2 := hp k hk; unfold takenB at h2 ⊢; rw [List.any_append, h2]; rfl, fun s s' h hp k hk => by rw [takenB_of h]; exact hp k hk⟩
/-- what is taken is the same -/
def Ag (z z2 : List Int) (S : St) : Prop := z.length ≤ z2.length ∧ ∀ k : Nat, k < z.length → takenB S k = true → z2.getD k 0 = z.getD k 0
theorem takeS_more {n n2 : Nat} (hn : n ≤ n2) {x : Spt} {s s' : St} (h : takeS n x s = .ok s') : takeS n2 x s = .ok s' := by
  obtain ⟨h1, h2, rfl⟩ := takeS_ok h; unfold takeS
  have hf : fitB n2 x = true := by
    unfold fitB roomB at h1 ⊢; simp only [Bool.and_eq_true, decide_eq_true_eq] at h1 ⊢
    omega
  rw [if_pos hf, if_pos h2]
/-- a range that is taken -/
theorem slice_same {z z2 : List Int} {S : St} (hA : Ag z z2 S) {p n : Nat} (hl : p + n ≤ z.length) (ht : ∀ k : Nat, p ≤ k → k < p + n → takenB S k = true) : (z2.drop p).take n = (z.drop p).take n := by
  have hz := hA.1; refine list_ext0 (by simp; omega) fun k hk => ?_; have hk2 : k < n := by simp at hk; omega
  have := hA.2 (p + k) (by omega) (ht (p + k) (by omega) (by omega)); simp only [List.getD_eq_getElem?_getD, List.getElem?_take, List.getElem?_drop] at this ⊢; rw [if_pos hk2, if_pos hk2, this]
theorem getV_same {z z2 : List Int} {S : St} (hA : Ag z z2 S) {p s o : Int} (hs : s = 1 ∨ s = 2 ∨ s = 4) (ho : o = 1 ∨ o = 2) (h0 : 0 ≤ p) (hl : p + s ≤ z.length) (ht : ∀ k : Nat, p ≤ k → (k : Int) < p + s → takenB S k = true) : getV z2 p s o = getV z p s o := by
  have hz := hA.1; rw [getV_in hs ho h0 hl, getV_in hs ho h0 (by omega)]; unfold getL; rw [slice_same hA (p := p.toNat) (n := s.toNat) (by omega) fun k a b => ht k (by omega) (by omega)]
theorem taken_spot {s : St} {x : Spt} (h : x ∈ s.spots) (k : Nat) (h1 : x.2.2.2.1 ≤ k) (h2 : (k : Int) < x.2.2.2.1 + x.2.2.2.2) : takenB s k = true := by
  unfold takenB; rw [List.any_eq_true]; refine ⟨x, h, ?_⟩; unfold inSpot; simp only [Bool.and_eq_true, decide_eq_true_eq]; exact ⟨h1, h2⟩
theorem fit_of {n : Nat} {x : Spt} (h : fitB n x = true) : x.2.2.2.1 % 2 = 0 ∧ 0 ≤ x.2.2.2.1 ∧ 0 ≤ x.2.2.2.2 ∧ x.2.2.2.1 + x.2.2.2.2 ≤ n := by
  unfold fitB roomB at h; simp only [Bool.and_eq_true, decide_eq_true_eq] at h
  omega
section
variable {z z2 : List Int}
theorem entAt_same {S : St} (hA : Ag z z2 S) {o p : Int} (ho : o = 1 ∨ o = 2) (h0 : 0 ≤ p) (hl : p + 12 ≤ z.length) (ht : ∀ k : Nat, p ≤ k → (k : Int) < p + 12 → takenB S k = true) : entAt z2 o p = entAt z o p := by
  unfold entAt; rw [getV_same hA (by decide) ho h0 (by omega) (fun k a b => ht k (by omega) (by omega)), getV_same hA (by decide) ho (by omega) (by omega) (fun k a b => ht k (by omega) (by omega)), getV_same hA (by decide) ho (by omega) (by omega) (fun k a b => ht k (by omega) (by omega)), getV_same hA (by decide) ho (by omega) (by omega) (fun k a b => ht k (by omega) (by omega))]
theorem entriesS_local {o p no : Int} (ho : o = 1 ∨ o = 2) {s : St} {l : List Ent} {s' : St} (h : entriesS z o p no s = .ok (l, s')) {S : St} (hS : SubT s' S) (hA : Ag z z2 S) : entriesS z2 o p no s = .ok (l, s') ∧ getV z2 (p + 2 + 12 * l.length) 4 o = getV z (p + 2 + 12 * l.length) 4 o := by
  have hz := hA.1; unfold entriesS at h ⊢
  split at h
  · rename_i hc
    split at h
    · rename_i h0
      cases ht : takeS z.length (2, no, 0, p, 6 + 12 * getV z p 2 o) s with
      | error e => rw [ht] at h; cases h
      | ok s1 =>
        rw [ht] at h; simp only at h
        split at h
        · rename_i hr
          injection h with h; injection h with h1 h2; subst h1 h2; obtain ⟨hf, _, hs1⟩ := takeS_ok ht; have hf := fit_of hf; simp only at hf; have htk : ∀ k : Nat, p ≤ k → (k : Int) < p + (6 + 12 * getV z p 2 o) → takenB S k = true := fun k a b => hS k (taken_spot (x := (2, no, 0, p, 6 + 12 * getV z p 2 o)) (by rw [hs1]; simp) k a b); have hg : getV z2 p 2 o = getV z p 2 o := getV_same hA (by decide) ho (by omega) (by omega) fun k a b => htk k a (by omega)
          have hc2 : (decide (p % 2 = 0) && roomB p 2 z2.length) = true := by
            unfold roomB at hc ⊢; simp only [Bool.and_eq_true, decide_eq_true_eq] at hc ⊢
            omega
          have he : entsS z2 o p (getV z p 2 o).toNat = entsS z o p (getV z p 2 o).toNat := by
            unfold entsS; refine List.map_congr_left fun i hi => ?_; have hi := List.mem_range.1 hi; exact entAt_same hA ho (by omega) (by omega) fun k a b => htk k (by omega) (by omega)
          rw [if_pos hc2, hg, if_pos h0, takeS_more hz ht, he]; simp only; rw [if_pos hr]; refine ⟨rfl, ?_⟩; have hlen : (entsS z o p (getV z p 2 o).toNat).length = (getV z p 2 o).toNat := by unfold entsS; simp
          rw [hlen]; exact getV_same hA (by decide) ho (by omega) (by omega) fun k a b => htk k (by omega) (by omega)
        · cases h
    · cases h
  · cases h
theorem ofS_same {y c : Int} {b b2 d : List Int} {o : Int} (h : ofS y c b o = some d) (hl : b.length ≤ b2.length) (ht : b2.take (c * (kindS y).1).toNat = b.take (c * (kindS y).1).toNat) : ofS y c b2 o = some d := by
  unfold ofS at h ⊢
  split at h
  · cases h
  · rename_i h1
    rw [if_neg (by omega), ht]; exact h
theorem valueS_local {o : Int} (ho : o = 1 ∨ o = 2) {x : Ent} {no : Int} {s : St} {v : Tgs} {s' : St} (h : valueS z o x no s = .ok (v, s')) {S : St} (hS : SubT s' S) (hA : Ag z z2 S) : valueS z2 o x no s = .ok (v, s') := by
  have hz := hA.1; unfold valueS at h ⊢
  split at h
  · rename_i hc
    rw [if_pos hc]
    split at h
    · rename_i h0
      rw [if_pos h0]
      cases ht : takeS z.length (3, no, x.1, x.2.2.2, outS x.2.1 x.2.2.1) s with
      | error e => rw [ht] at h; cases h
      | ok s1 =>
        rw [ht] at h; rw [takeS_more hz ht]; simp only at h ⊢
        cases hv : ofS x.2.1 x.2.2.1 (z.drop x.2.2.2.toNat) o with
        | none => rw [hv] at h; cases h
        | some d =>
          rw [hv] at h; simp only at h; have h' := h; injection h with h; injection h with h1 h2; obtain ⟨hf, _, hs1⟩ := takeS_ok ht; have hf := fit_of hf; simp only at hf
          have hlo : outS x.2.1 x.2.2.1 = x.2.2.1 * (kindS x.2.1).1 := by
            unfold outS at h0 ⊢
            split at h0
            · rename_i h4
              rw [if_pos h4]; unfold longS; rw [if_neg (by omega)]
            · omega
          rw [← h2] at hS
          have := ofS_same (b2 := z2.drop x.2.2.2.toNat) hv (by rw [List.length_drop, List.length_drop]; omega) (by
            rw [← hlo]; exact slice_same hA (by omega) fun k a b => hS k (taken_spot (x := (3, no, x.1, x.2.2.2, outS x.2.1 x.2.2.1)) (by rw [hs1]; simp) k (by show x.2.2.2 ≤ k; omega) (by show (k : Int) < x.2.2.2 + outS x.2.1 x.2.2.1; omega)))
          rw [this]; exact h'
    · rename_i h0
      rw [if_neg h0]; exact h
  · cases h
theorem stepT_local {o : Int} (ho : o = 1 ∨ o = 2) {sh : Shp} {no : Int} {acc acc' : List Tgs × St} {x : Ent} (h : stepT z o sh no acc x = .ok acc') {S : St} (hS : SubT acc'.2 S) (hA : Ag z z2 S) : stepT z2 o sh no acc x = .ok acc' := by
  unfold stepT at h ⊢
  split at h
  · rename_i hc
    rw [if_pos hc]; exact h
  · rename_i hc
    rw [if_neg hc]
    cases hv : valueS z o x no acc.2 with
    | error e => rw [hv] at h; cases h
    | ok r =>
      obtain ⟨v, s'⟩ := r; rw [hv] at h; injection h with h; subst h; rw [valueS_local ho hv hS hA]
theorem loop_local {α β : Type} {step step2 : β × St → α → Except Int (β × St)} (hm : ∀ s x s', step s x = .ok s' → SubT s.2 s'.2) {S : St} (hl : ∀ s x s', step s x = .ok s' → SubT s'.2 S → step2 s x = .ok s') : ∀ (l : List α) (s s' : β × St), loopS step l s = .ok s' → SubT s'.2 S → loopS step2 l s = .ok s'
  | [], _, _, h, _ => h
  | x :: l, s, s', h, hS => by
    rw [loopS_cons] at h ⊢
    cases hx : step s x with
    | error e => rw [hx] at h; cases h
    | ok s1 =>
      rw [hx] at h; simp only at h; have hs1 : SubT s1.2 s'.2 := loopS_keep (P := fun a : β × St => SubT s1.2 a.2) (fun a y b h hp => hp.trans (hm a y b h)) h (SubT.refl _); rw [hl s x s1 hx (hs1.trans hS)]; exact loop_local hm hl l s1 s' h hS
theorem blobS_local {sh : Shp} {l : List Ent} {no : Int} {s : St} {b : List Int} {s' : St} (h : blobS z sh l no s = .ok (b, s')) {S : St} (hS : SubT s' S) (hA : Ag z z2 S) : blobS z2 sh l no s = .ok (b, s') := by
  have hz := hA.1; unfold blobS at h ⊢
  split at h
  · rename_i x y heq
    split at h
    · rename_i h0
      cases ht : takeS z.length (4, no, 0, x.2.2.2, y.2.2.2) s with
      | error e => rw [ht] at h; cases h
      | ok s1 =>
        rw [ht] at h; rw [if_pos h0, takeS_more hz ht]; obtain ⟨hf, _, hs1⟩ := takeS_ok ht; have hf := fit_of hf; simp only at hf; have h' := h; injection h with h; injection h with h1 h2; rw [← h2] at hS; simp only; rw [slice_same hA (p := x.2.2.2.toNat) (n := y.2.2.2.toNat) (by omega) fun k a b => hS k (taken_spot (x := (4, no, 0, x.2.2.2, y.2.2.2)) (by rw [hs1]; simp) k (by show x.2.2.2 ≤ k; omega) (by show (k : Int) < x.2.2.2 + y.2.2.2; omega))]; exact h'
    · cases h
  · exact h
theorem dirS_local {o : Int} (ho : o = 1 ∨ o = 2) {L : List Shp} : ∀ {f : Nat} {p sh : Int} {s : St} {r : DirT f × Int} {s' : St}, dirS z o L f p sh s = .ok (r, s') → ∀ {S : St}, SubT s' S → Ag z z2 S → dirS z2 o L f p sh s = .ok (r, s')
  | 0, _, _, _, _, _, h, _, _, _ => by cases h
  | f + 1, p, sh, s, r, s', h, S, hS, hA => by
    rw [dirS_succ] at h ⊢
    cases hE : entriesS z o p s.no { s with no := IntKind.i64.wrap (s.no + 1) } with
    | error e => rw [hE] at h; cases h
    | ok q =>
      obtain ⟨l, s1⟩ := q; rw [hE] at h; simp only at h
      cases hT : loopS (stepT z o (L.getD sh.toNat shp0) s.no) l ([], s1) with
      | error e => rw [hT] at h; cases h
      | ok q =>
        obtain ⟨tags, s2⟩ := q; rw [hT] at h; simp only at h
        split at h
        · cases h
        rename_i hone
        cases hD : loopS (stepD (dirS z o L f) (L.getD sh.toNat shp0)) l ([], s2) with
        | error e => rw [hD] at h; cases h
        | ok q =>
          obtain ⟨subs, s3⟩ := q; rw [hD] at h; simp only at h
          cases hB : blobS z (L.getD sh.toNat shp0) l s.no s3 with
          | error e => rw [hB] at h; cases h
          | ok q =>
            obtain ⟨blob, s4⟩ := q; rw [hB] at h; have h' := h; injection h with h; injection h with h1 h2; subst h2
            have stepD_sub : ∀ (a : List (Int × DirT f) × St) x a', stepD (dirS z o L f) (L.getD sh.toNat shp0) a x = .ok a' → SubT a.2 a'.2 := fun acc x acc' h => by
              unfold stepD at h
              split at h
              · cases hr : dirS z o L f x.2.2.2 ((L.getD sh.toNat shp0).1.getD (fst (fun y => y.1 == x.1) (L.getD sh.toNat shp0).1).toNat (0, 0)).2 acc.2 with
                | error e => rw [hr] at h; cases h
                | ok q =>
                  obtain ⟨⟨d, nx⟩, s9⟩ := q; rw [hr] at h; simp only at h
                  split at h
                  · injection h with h
                    subst h; exact dirS_keeps (keeps_sub z.length acc.2) hr (SubT.refl _)
                  · cases h
              · injection h with h
                subst h; exact SubT.refl _
            have u3 : SubT s3 s4 := blobS_keeps (keeps_sub z.length s3) hB (SubT.refl _); have u2 : SubT s2 s3 := loopS_keep (P := fun a : List (Int × DirT f) × St => SubT s2 a.2) (fun a y b h hp => hp.trans (stepD_sub a y b h)) hD (SubT.refl _); have u1 : SubT s1 s2 := loopS_keep (P := fun a : List Tgs × St => SubT s1 a.2) (fun a y b h hp => stepT_keeps (keeps_sub z.length s1) h hp) hT (SubT.refl _); obtain ⟨e1, e2⟩ := entriesS_local ho hE (((u1.trans u2).trans u3).trans hS) hA; rw [e1]; simp only; rw [loop_local (step2 := stepT z2 o (L.getD sh.toNat shp0) s.no) (fun a y b h => stepT_keeps (keeps_sub z.length a.2) h (SubT.refl _)) (fun a y b h hs => stepT_local ho h hs hA) l _ _ hT ((u2.trans u3).trans hS)]; simp only; rw [if_neg hone]
            rw [loop_local (step2 := stepD (dirS z2 o L f) (L.getD sh.toNat shp0)) stepD_sub (fun acc x acc' h hs => by
              unfold stepD at h ⊢
              split at h
              · rename_i hlk
                rw [if_pos hlk]
                cases hr : dirS z o L f x.2.2.2 ((L.getD sh.toNat shp0).1.getD (fst (fun y => y.1 == x.1) (L.getD sh.toNat shp0).1).toNat (0, 0)).2 acc.2 with
                | error e => rw [hr] at h; cases h
                | ok q =>
                  obtain ⟨⟨d, nx⟩, s9⟩ := q; rw [hr] at h; simp only at h
                  split at h
                  · rename_i hnx
                    have h' := h; injection h with h; subst h; rw [dirS_local ho hr hs hA]; simp only; rw [if_pos hnx]
                  · cases h
              · rename_i hlk
                rw [if_neg hlk]; exact h) l _ _ hD (u3.trans hS)]
            simp only; rw [blobS_local hB hS hA]; simp only; rw [e2]; exact h'
theorem chainG_local {o : Int} (ho : o = 1 ∨ o = 2) {L : List Shp} {g : Nat} : ∀ {n : Nat} {acc : List (DirT g)} {p sh : Int} {s : St} {r : List (DirT g)} {s' : St}, chainG z o L g n acc p sh s = .ok (r, s') → Ag z z2 s' → chainG z2 o L g n acc p sh s = .ok (r, s')
  | 0, _, _, _, _, _, _, h, _ => by cases h
  | n + 1, acc, p, sh, s, r, s', h, hA => by
    unfold chainG at h ⊢
    split at h
    · rename_i hc
      rw [if_pos hc]
      split at h
      · rename_i hs
        rw [if_pos hs]
        cases hr : dirS z o L g p sh s with
        | error e => rw [hr] at h; cases h
        | ok q =>
          obtain ⟨⟨d, nx⟩, s9⟩ := q; rw [hr] at h; simp only at h; rw [dirS_local ho hr (chainG_keeps (keeps_sub z.length s9) h (SubT.refl _)) hA]; exact chainG_local ho h hA
      · cases h
    · rename_i hc
      rw [if_neg hc]; exact h
theorem orderS_cases (z : List Int) : orderS z = 0 ∨ orderS z = 1 ∨ orderS z = 2 := by
  unfold orderS
  split
  · exact .inr (.inl rfl)
  · split
    · exact .inr (.inr rfl)
    · exact .inl rfl
/-- bytes that have all that is taken in the same place are read as the same -/
theorem readG_local {L : List Shp} {g : Nat} {r : List (DirT g)} {s' : St} (h : readG z L g = .ok (r, s')) (hA : Ag z z2 s') : readG z2 L g = .ok (r, s') ∧ orderS z2 = orderS z := by
  have hz := hA.1; unfold readG at h
  split at h
  · rename_i hL
    cases hh : headS z with
    | error e => rw [hh] at h; cases h
    | ok s =>
      rw [hh] at h; simp only at h; have hs := chainG_keeps (keeps_sub z.length s) h (SubT.refl _); have hh' := hh; unfold headS at hh
      split at hh
      · rename_i h8
        split at hh
        · rename_i h42
          obtain ⟨hf, _, hs1⟩ := takeS_ok hh; have htk : ∀ k : Nat, k < 8 → takenB s' k = true := fun k a => hs k (taken_spot (x := (1, -1, 0, 0, 8)) (by rw [hs1]; simp) k (by show (0 : Int) ≤ k; omega) (by show (k : Int) < 0 + 8; omega))
          have hord : orderS z2 = orderS z := by
            unfold orderS; rw [hA.2 0 (by omega) (htk 0 (by omega)), hA.2 1 (by omega) (htk 1 (by omega))]
          have ho : orderS z = 1 ∨ orderS z = 2 := by
            rcases orderS_cases z with e | e
            · rw [e] at h42; omega
            · exact e
          have g2 : getV z2 2 2 (orderS z) = getV z 2 2 (orderS z) := getV_same hA (by decide) ho (by decide) (by omega) fun k a b => htk k (by omega); have g4 : getV z2 4 4 (orderS z) = getV z 4 4 (orderS z) := getV_same hA (by decide) ho (by decide) (by omega) fun k a b => htk k (by omega)
          have hh2 : headS z2 = .ok s := by
            unfold headS; rw [if_pos (by omega), hord, g2, if_pos h42]; exact takeS_more hz hh
          refine ⟨?_, hord⟩; unfold readG; rw [if_pos hL, hh2, hord, g4]; exact chainG_local ho h hA
        · cases hh
      · cases hh
  · cases h
end
end Go.Proofs.YtilennmeiaehnaaGreat

namespace Go.Proofs.YtilennmeiaehnaaGreat
open Go.RowKit Tt
set_option linter.unusedVariables false
set_option linter.unusedSimpArgs false

theorem treeW_order {f : Nat} {o : Int} {ds : List (DirT f)} {L : List Shp} (h : checkS f o ds L = 0) (hb : ∀ d ∈ ds, bytD f d) : orderS (treeW f o ds L) = o ∧ readG (treeW f o ds L) L f = readG (treeW f o ds L) L f := by
  have hH := holds_W h hb 0; rw [List.replicate_zero, List.append_nil] at hH; have h2 := (chk_of h).2.1; have h8 := endT_ge f ds; have hlen := hH.len; have hsg := hH.std (0, signB o) (List.mem_cons_self ..); simp only [signB_len, List.drop_zero] at hsg; refine ⟨?_, rfl⟩
  match treeW f o ds L, hsg.2, hlen with
  | [], _, hl => simp at hl; omega
  | [x], hh, _ => have := congrArg List.length hh; simp [signB_len] at this
  | x :: y :: r, hh, _ =>
    unfold signB at hh; unfold orderS
    rcases h2 with rfl | rfl
    · rw [if_neg (by decide)] at hh
      obtain ⟨rfl, rfl⟩ : x = 73 ∧ y = 73 := by simpa using hh
      rfl
    · rw [if_pos rfl] at hh
      obtain ⟨rfl, rfl⟩ : x = 77 ∧ y = 77 := by simpa using hh
      rfl
theorem treeW_read {f : Nat} {o : Int} {ds : List (DirT f)} {L : List Shp} (h : checkS f o ds L = 0) (hb : ∀ d ∈ ds, bytD f d) (hN : (flatT f ds).length < 1000000) : readG (treeW f o ds L) L f = .ok (ds, ⟨layT f ds, noT f ds ds.length, 0⟩) := by
  have hH := holds_W h hb 0; rw [List.replicate_zero, List.append_nil] at hH; exact read_back h hb hH hN
end Go.Proofs.YtilennmeiaehnaaGreat

namespace Go.Proofs.YtilennmeiaehnaaGreat
open Go.RowKit Tt
set_option linter.unusedVariables false
set_option linter.unusedSimpArgs false

theorem ag_append (z e : List Int) (S : St) : Ag z (z ++ e) S := ⟨by simp, fun k hk _ => by
  rw [List.getD_eq_getElem?_getD, List.getElem?_append_left hk, ← List.getD_eq_getElem?_getD]⟩
section
variable {o : Int} {ds : List (DirT 16)} {L : List Shp} (h : checkS 16 o ds L = 0) (hb : ∀ d ∈ ds, bytD 16 d) (hN : (flatT 16 ds).length < 1000000)
include h hb hN
theorem back_read (m : Nat) : readS (treeW 16 o ds L ++ List.replicate m 0) L = .ok (ds, ⟨layT 16 ds, noT 16 ds ds.length, 0⟩) ∧ orderS (treeW 16 o ds L ++ List.replicate m 0) = o := by
  have h1 := treeW_read h hb hN; have h2 := readG_local h1 (ag_append _ (List.replicate m 0) _); rw [← readG_16]; exact ⟨h2.1, h2.2.trans (treeW_order h hb).1⟩
end
end Go.Proofs.YtilennmeiaehnaaGreat
