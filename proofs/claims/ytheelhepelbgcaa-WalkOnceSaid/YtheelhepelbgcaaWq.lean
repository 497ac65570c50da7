/- Chapter 22, the plain walk: there are no more spots than bytes. -/
import Derived.Test.YtheelhepelbgcaaWk5
namespace Go.Proofs.Ytheelhepelbgcaa
open Go.RowKit Tt
set_option linter.unusedVariables false
set_option linter.unusedSimpArgs false

def cntN (n : Nat) (p : Nat → Bool) : Nat := ((List.range n).filter p).length
theorem cntN_succ (n : Nat) (p : Nat → Bool) : cntN (n + 1) p = cntN n p + (if p n = true then 1 else 0) := by
  unfold cntN
  rw [List.range_succ, List.filter_append, List.length_append]
  congr 1
  cases h : p n <;> simp [h]
theorem cntN_le (n : Nat) (p : Nat → Bool) : cntN n p ≤ n := by
  unfold cntN
  exact Nat.le_trans (List.length_filter_le _ _) (by simp)
theorem cntN_mono {p q : Nat → Bool} (h : ∀ k, p k = true → q k = true) : ∀ n, cntN n p ≤ cntN n q
  | 0 => by simp [cntN]
  | n + 1 => by
    rw [cntN_succ, cntN_succ]
    have ih := cntN_mono h n
    by_cases hp : p n = true
    · rw [if_pos hp, if_pos (h n hp)]; omega
    · rw [if_neg hp]; split <;> omega
theorem cntN_lt {p q : Nat → Bool} (h : ∀ k, p k = true → q k = true) {k : Nat} (h1 : p k = false) (h2 : q k = true) : ∀ n, k < n → cntN n p + 1 ≤ cntN n q
  | 0, hk => by omega
  | n + 1, hk => by
    rw [cntN_succ, cntN_succ]
    by_cases hkn : k = n
    · subst hkn
      have := cntN_mono h k
      rw [h2, h1]
      simp
      exact this
    · have ih := cntN_lt h h1 h2 n (by omega)
      by_cases hp : p n = true
      · rw [if_pos hp, if_pos (h n hp)]; omega
      · rw [if_neg hp]; split <;> omega
def Inv (n : Nat) (s : St) : Prop := s.spots.length ≤ cntN n (fun (k : Nat) => takenB s k)
theorem Inv.le {n : Nat} {s : St} (h : Inv n s) : s.spots.length ≤ n := Nat.le_trans h (cntN_le _ _)
theorem Inv.of_spots {n : Nat} {s s' : St} (h : Inv n s) (e : s'.spots = s.spots) : Inv n s' := by
  unfold Inv takenB at *
  rw [e]
  exact h
theorem takeS_inv {n : Nat} {x : Spt} {s s' : St} (h : takeS n x s = .ok s') (hl : 1 ≤ x.2.2.2.2) (hi : Inv n s) : Inv n s' := by
  have hf := takeS_fit h
  unfold takeS at h
  rw [if_pos hf] at h
  split at h
  · rename_i hfr
    injection h with h
    subst h
    unfold fitB roomB at hf
    simp only [Bool.and_eq_true, decide_eq_true_eq] at hf
    obtain ⟨A, hA⟩ : ∃ A : Nat, x.2.2.2.1 = A := ⟨x.2.2.2.1.toNat, by omega⟩
    have h0 : takenB s (A : Int) = false := by
      unfold freeB at hfr
      have := List.all_eq_true.1 hfr 0 (List.mem_range.2 (by omega))
      rw [hA] at this
      simpa using this
    have h1 : takenB { s with spots := s.spots ++ [x] } (A : Int) = true := by
      rw [takenB_snoc]
      unfold inSpot
      rw [hA]
      simp
      omega
    have := cntN_lt (p := fun (k : Nat) => takenB s k) (q := fun (k : Nat) => takenB { s with spots := s.spots ++ [x] } k) (fun k hk => by rw [takenB_snoc, hk]; rfl) h0 h1 n (by omega)
    unfold Inv at *
    simp only [List.length_append, List.length_singleton]
    omega
  · cases h
theorem loopS_inv {α σ : Type} {step : σ → α → Except Int σ} {P : σ → Prop} (hs : ∀ s x s', step s x = .ok s' → P s → P s') : ∀ {l : List α} {s s' : σ}, loopS step l s = .ok s' → P s → P s'
  | [], s, s', h, hp => by
    injection h with h
    subst h; exact hp
  | x :: r, s, s', h, hp => by
    simp only [loopS] at h
    cases hx : step s x with
    | error e => rw [hx] at h; cases h
    | ok s1 =>
      rw [hx] at h
      exact loopS_inv hs h (hs _ _ _ hx hp)
theorem entriesS_inv {z : List Int} {o p no : Int} {s : St} {l : List Ent} {s' : St} (h : entriesS z o p no s = .ok (l, s')) (hi : Inv z.length s) : Inv z.length s' := by
  unfold entriesS at h
  split at h
  · split at h
    · rename_i h0
      cases ht : takeS z.length (2, no, 0, p, 6 + 12 * getV z p 2 o) s with
      | error e => rw [ht] at h; cases h
      | ok s1 =>
        rw [ht] at h
        simp only at h
        split at h
        · injection h with h
          injection h with h1 h2
          subst h2
          exact takeS_inv ht (by show 1 ≤ 6 + 12 * getV z p 2 o; omega) hi
        · cases h
    · cases h
  · cases h
theorem valueS_inv {z : List Int} {o : Int} {x : Ent} {no : Int} {s : St} {v : Tgs} {s' : St} (h : valueS z o x no s = .ok (v, s')) (hi : Inv z.length s) : Inv z.length s' := by
  unfold valueS at h
  split at h
  · split at h
    · rename_i h0
      cases ht : takeS z.length (3, no, x.1, x.2.2.2, outS x.2.1 x.2.2.1) s with
      | error e => rw [ht] at h; cases h
      | ok s1 =>
        rw [ht] at h
        simp only at h
        cases hv : ofS x.2.1 x.2.2.1 (z.drop x.2.2.2.toNat) o with
        | none => rw [hv] at h; cases h
        | some d =>
          rw [hv] at h
          injection h with h
          injection h with h1 h2
          subst h2
          exact takeS_inv ht (by show 1 ≤ outS x.2.1 x.2.2.1; omega) hi
    · cases hv : inS x o with
      | none => rw [hv] at h; cases h
      | some d =>
        rw [hv] at h
        injection h with h
        injection h with h1 h2
        subst h2
        exact hi.of_spots rfl
  · cases h
theorem stepT_inv {z : List Int} {o : Int} {sh : Shp} {no : Int} {acc acc' : List Tgs × St} {x : Ent} (h : stepT z o sh no acc x = .ok acc') (hi : Inv z.length acc.2) : Inv z.length acc'.2 := by
  unfold stepT at h
  split at h
  · split at h
    · injection h with h
      subst h; exact hi
    · cases h
  · cases hv : valueS z o x no acc.2 with
    | error e => rw [hv] at h; cases h
    | ok r =>
      obtain ⟨v, s'⟩ := r
      rw [hv] at h
      injection h with h
      subst h
      exact valueS_inv hv hi
theorem stepD_inv {z : List Int} {f : Nat} {rec : Int → Int → St → Except Int ((DirT f × Int) × St)} (hr : ∀ p sh s r s', rec p sh s = .ok (r, s') → Inv z.length s → Inv z.length s') {sh : Shp} {acc acc' : List (Int × DirT f) × St} {x : Ent} (h : stepD rec sh acc x = .ok acc') (hi : Inv z.length acc.2) : Inv z.length acc'.2 := by
  unfold stepD at h
  split at h
  · cases hv : rec x.2.2.2 (sh.1.getD (fst (fun y => y.1 == x.1) sh.1).toNat (0, 0)).2 acc.2 with
    | error e => rw [hv] at h; cases h
    | ok r =>
      obtain ⟨⟨d, next⟩, s'⟩ := r
      rw [hv] at h
      simp only at h
      split at h
      · injection h with h
        subst h
        exact hr _ _ _ _ _ hv hi
      · cases h
  · injection h with h
    subst h; exact hi
theorem blobS_inv {z : List Int} {sh : Shp} {l : List Ent} {no : Int} {s : St} {b : List Int} {s' : St} (h : blobS z sh l no s = .ok (b, s')) (hi : Inv z.length s) : Inv z.length s' := by
  unfold blobS at h
  split at h
  · rename_i x y _
    split at h
    · rename_i h0
      cases ht : takeS z.length (4, no, 0, x.2.2.2, y.2.2.2) s with
      | error e => rw [ht] at h; cases h
      | ok s1 =>
        rw [ht] at h
        injection h with h
        injection h with h1 h2
        subst h2
        exact takeS_inv ht (by show 1 ≤ y.2.2.2; omega) hi
    · cases h
  · injection h with h
    injection h with h1 h2
    subst h2; exact hi
theorem dirS_inv {z : List Int} {o : Int} {L : List Shp} : ∀ {f : Nat} {p sh : Int} {s : St} {r : DirT f × Int} {s' : St}, dirS z o L f p sh s = .ok (r, s') → Inv z.length s → Inv z.length s'
  | 0, _, _, _, _, _, h, _ => by simp [dirS] at h
  | f + 1, p, sh, s, r, s', h, hi => by
    simp only [dirS] at h
    cases he : entriesS z o p s.no { s with no := IntKind.i64.wrap (s.no + 1) } with
    | error e => rw [he] at h; cases h
    | ok q =>
      obtain ⟨l, s1⟩ := q
      rw [he] at h
      simp only at h
      have i1 := entriesS_inv he (hi.of_spots rfl)
      cases ht : loopS (stepT z o (L.getD sh.toNat shp0) s.no) l ([], s1) with
      | error e => rw [ht] at h; cases h
      | ok q =>
        obtain ⟨tags, s2⟩ := q
        rw [ht] at h
        simp only at h
        have i2 := loopS_inv (P := fun a : List Tgs × St => Inv z.length a.2) (fun _ _ _ h hp => stepT_inv h hp) ht i1
        split at h
        · cases h
        · cases hd : loopS (stepD (dirS z o L f) (L.getD sh.toNat shp0)) l ([], s2) with
          | error e => rw [hd] at h; cases h
          | ok q =>
            obtain ⟨subs, s3⟩ := q
            rw [hd] at h
            simp only at h
            have i3 := loopS_inv (P := fun a : List (Int × DirT f) × St => Inv z.length a.2) (fun _ _ _ h hp => stepD_inv (fun _ _ _ _ _ h hi => dirS_inv h hi) h hp) hd i2
            cases hb : blobS z (L.getD sh.toNat shp0) l s.no s3 with
            | error e => rw [hb] at h; cases h
            | ok q =>
              obtain ⟨blob, s4⟩ := q
              rw [hb] at h
              injection h with h
              injection h with h1 h2
              subst h2
              exact blobS_inv hb i3
theorem getV4 {z : List Int} (hb : Byt z) (q o : Int) : 0 ≤ getV z q 4 o ∧ getV z q 4 o ≤ 4294967295 := by
  have := getV_lt hb q 4 o
  rw [show ((4 : Nat) : Int) = 4 from rfl, show (256 : Int) ^ 4 = 4294967296 by decide] at this
  omega
theorem dirS_next {z : List Int} {o : Int} {L : List Shp} {f : Nat} {p sh : Int} {s : St} {d : DirT f} {nx : Int} {s' : St} (hb : Byt z) (h : dirS z o L f p sh s = .ok ((d, nx), s')) : 0 ≤ nx ∧ nx ≤ 4294967295 := by
  cases f with
  | zero => simp [dirS] at h
  | succ f =>
    simp only [dirS] at h
    split at h
    · cases h
    · split at h
      · cases h
      · split at h
        · cases h
        · split at h
          · cases h
          · split at h
            · cases h
            · injection h with h
              injection h with h1 h2
              injection h1 with h3 h4
              subst h4
              exact getV4 hb _ _
end Go.Proofs.Ytheelhepelbgcaa
