/- Chapter 22, the plain walk: an error is never 0. -/
import Derived.Test.YtheelhepelbgcaaWp
namespace Go.Proofs.Ytheelhepelbgcaa
open Go.RowKit Tt
set_option linter.unusedVariables false
set_option linter.unusedSimpArgs false

theorem takeS_ne {n : Nat} {x : Spt} {s : St} {e : Int} (h : takeS n x s = .error e) : e ≠ 0 := by
  unfold takeS at h
  split at h
  · split at h <;> cases h
    decide
  · cases h; decide
theorem entriesS_ne {z : List Int} {o p no : Int} {s : St} {e : Int} (h : entriesS z o p no s = .error e) : e ≠ 0 := by
  unfold entriesS at h
  split at h
  · split at h
    · cases ht : takeS z.length (2, no, 0, p, 6 + 12 * getV z p 2 o) s with
      | error y => rw [ht] at h; cases h; exact takeS_ne ht
      | ok s1 =>
        rw [ht] at h
        simp only at h
        split at h <;> cases h
        decide
    · cases h; decide
  · cases h; decide
theorem valueS_ne {z : List Int} {o : Int} {x : Ent} {no : Int} {s : St} {e : Int} (h : valueS z o x no s = .error e) : e ≠ 0 := by
  unfold valueS at h
  split at h
  · split at h
    · cases ht : takeS z.length (3, no, x.1, x.2.2.2, outS x.2.1 x.2.2.1) s with
      | error y => rw [ht] at h; cases h; exact takeS_ne ht
      | ok s1 =>
        rw [ht] at h
        simp only at h
        split at h <;> cases h
        decide
    · split at h <;> cases h
      decide
  · cases h; decide
theorem loopS_ne {α σ : Type} {step : σ → α → Except Int σ} (hs : ∀ s a e, step s a = .error e → e ≠ 0) : ∀ {l : List α} {s : σ} {e : Int}, loopS step l s = .error e → e ≠ 0
  | [], s, e, h => by cases h
  | x :: r, s, e, h => by
    unfold loopS at h
    cases hx : step s x with
    | error y => rw [hx] at h; cases h; exact hs _ _ _ hx
    | ok s1 => rw [hx] at h; exact loopS_ne hs h
theorem stepT_ne {z : List Int} {o : Int} {sh : Shp} {no : Int} {acc : List Tgs × St} {x : Ent} {e : Int} (h : stepT z o sh no acc x = .error e) : e ≠ 0 := by
  unfold stepT at h
  split at h
  · split at h <;> cases h
    decide
  · cases hv : valueS z o x no acc.2 with
    | error y => rw [hv] at h; cases h; exact valueS_ne hv
    | ok v => rw [hv] at h; cases h
theorem blobS_ne {z : List Int} {sh : Shp} {l : List Ent} {no : Int} {s : St} {e : Int} (h : blobS z sh l no s = .error e) : e ≠ 0 := by
  unfold blobS at h
  split at h
  · rename_i x y _
    split at h
    · cases ht : takeS z.length (4, no, 0, x.2.2.2, y.2.2.2) s with
      | error y => rw [ht] at h; cases h; exact takeS_ne ht
      | ok s1 => rw [ht] at h; cases h
    · cases h; decide
  · cases h
theorem dirS_ne {z : List Int} {o : Int} {L : List Shp} : ∀ {f : Nat} {p sh : Int} {s : St} {e : Int}, dirS z o L f p sh s = .error e → e ≠ 0
  | 0, p, sh, s, e, h => by cases h; decide
  | f + 1, p, sh, s, e, h => by
    unfold dirS at h
    cases h1 : entriesS z o p s.no { s with no := IntKind.i64.wrap (s.no + 1) } with
    | error y => rw [h1] at h; cases h; exact entriesS_ne h1
    | ok r1 =>
      rw [h1] at h
      simp only at h
      cases h2 : loopS (stepT z o (L.getD sh.toNat shp0) s.no) r1.1 ([], r1.2) with
      | error y => rw [h2] at h; cases h; exact loopS_ne (fun _ _ _ => stepT_ne) h2
      | ok r2 =>
        rw [h2] at h
        simp only at h
        split at h
        · cases h; decide
        · cases h3 : loopS (stepD (dirS z o L f) (L.getD sh.toNat shp0)) r1.1 ([], r2.2) with
          | error y =>
            rw [h3] at h; cases h
            refine loopS_ne (fun acc x e hs => ?_) h3
            unfold stepD at hs
            split at hs
            · split at hs
              · rename_i hr; cases hs; exact dirS_ne hr
              · split at hs <;> cases hs
                decide
            · cases hs
          | ok r3 =>
            rw [h3] at h
            simp only at h
            cases h4 : blobS z (L.getD sh.toNat shp0) r1.1 s.no r3.2 with
            | error y => rw [h4] at h; cases h; exact blobS_ne h4
            | ok r4 => rw [h4] at h; cases h
theorem chainS_ne {z : List Int} {o : Int} {L : List Shp} : ∀ {f : Nat} {acc : List (DirT 16)} {p sh : Int} {s : St} {e : Int}, chainS z o L f acc p sh s = .error e → e ≠ 0
  | 0, _, _, _, _, _, h => by cases h; decide
  | f + 1, acc, p, sh, s, e, h => by
    unfold chainS at h
    split at h
    · split at h
      · cases h1 : dirS z o L 16 p sh s with
        | error y => rw [h1] at h; cases h; exact dirS_ne h1
        | ok r => rw [h1] at h; exact chainS_ne h
      · cases h; decide
    · cases h
theorem readS_ne {z : List Int} {L : List Shp} {e : Int} (h : readS z L = .error e) : e ≠ 0 := by
  unfold readS at h
  split at h
  · cases h1 : headS z with
    | error y =>
      rw [h1] at h; cases h
      unfold headS at h1
      split at h1
      · split at h1
        · exact takeS_ne h1
        · cases h1; decide
      · cases h1; decide
    | ok s => rw [h1] at h; exact chainS_ne h
  · cases h; decide
end Go.Proofs.Ytheelhepelbgcaa
