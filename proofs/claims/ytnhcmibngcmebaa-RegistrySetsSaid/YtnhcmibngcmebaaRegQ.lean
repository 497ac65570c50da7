import Derived.Test.YtnhcmibngcmebaaReg3
/- What is known: plain. -/
namespace Go.Proofs.Ytnhcmibngcmebaa
open Go.RowKit Tt
set_option linter.unusedVariables false

def look (T : List (Int × List Int × Int)) (tag : Int) : List Int × Int := match T.find? (fun r => r.1 == tag) with | some r => r.2 | none => ([], -1)
theorem look_none {T : List (Int × List Int × Int)} {tag : Int} (h : ∀ r ∈ T, r.1 ≠ tag) : look T tag = ([], -1) := by
  unfold look
  rw [List.find?_eq_none.2 (fun r hr => by simpa using h r hr)]
theorem look_some {T : List (Int × List Int × Int)} {tag : Int} (h : look T tag ≠ ([], -1)) : ∃ r ∈ T, r.1 = tag := by
  unfold look at h
  cases hf : T.find? (fun r => r.1 == tag) with
  | none => rw [hf] at h; exact absurd rfl h
  | some r => exact ⟨r, List.mem_of_find?_eq_some hf, by simpa using List.find?_some hf⟩
def tab (dir : Int) : List (Int × List Int × Int) :=
  if dir = 0 then imageT else if dir = 1 then imageT else if dir = 2 then photoT else if dir = 3 then gpsT else if dir = 4 then interT else if dir = 5 then viewT else []
def knownS (dir tag : Int) : List Int × Int := look (tab dir) tag
theorem allE_known : ∀ x ∈ allE, knownS x.1.1 x.1.2 = x.2 := by decide +kernel
theorem allE_none {d t : Int} (h : ∀ x ∈ allE, x.1 ≠ (d, t)) : knownS d t = ([], -1) := by
  rcases Classical.em (knownS d t = ([], -1)) with h0 | h0
  · exact h0
  · exfalso
    obtain ⟨r, hr, rfl⟩ := look_some h0
    have key : ∀ d' : Int, d = d' → r ∈ tab d' → ents d' (tab d') ⊆ allE → False := fun d' hd hr' hs => by
      subst hd
      exact h ((d, r.1), (r.2.1, r.2.2)) (hs (List.mem_map.2 ⟨r, hr', rfl⟩)) rfl
    by_cases h0 : d = 0
    · exact key 0 h0 (h0 ▸ hr) (fun x hx => by unfold allE; simp only [List.mem_append]; exact .inl (.inl (.inl (.inl (.inl (.inr hx))))))
    by_cases h1 : d = 1
    · exact key 1 h1 (h1 ▸ hr) (fun x hx => by unfold allE; simp only [List.mem_append]; exact .inl (.inl (.inl (.inl (.inr hx)))))
    by_cases h2 : d = 2
    · exact key 2 h2 (h2 ▸ hr) (fun x hx => by unfold allE; simp only [List.mem_append]; exact .inl (.inl (.inl (.inr hx))))
    by_cases h3 : d = 3
    · exact key 3 h3 (h3 ▸ hr) (fun x hx => by unfold allE; simp only [List.mem_append]; exact .inl (.inl (.inr hx)))
    by_cases h4 : d = 4
    · exact key 4 h4 (h4 ▸ hr) (fun x hx => by unfold allE; simp only [List.mem_append]; exact .inl (.inr hx))
    by_cases h5 : d = 5
    · exact key 5 h5 (h5 ▸ hr) (fun x hx => by unfold allE; simp only [List.mem_append]; exact .inr hx)
    · unfold tab at hr
      rw [if_neg h0, if_neg h1, if_neg h2, if_neg h3, if_neg h4, if_neg h5] at hr
      cases hr
end Go.Proofs.Ytnhcmibngcmebaa
