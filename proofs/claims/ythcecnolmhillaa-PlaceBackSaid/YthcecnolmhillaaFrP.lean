/- Frames: a row of places that came in. -/
import Derived.Test.YthcecnolmhillaaFrN
import Derived.Test.YthcecnolmhillaaPl5
namespace Go.Proofs.Ythcecnolmhillaa
open Go.RowKit Go.ChangeShapes Go.WideShapes Go.ChangeAt Tt
set_option linter.unusedVariables false

theorem list5 {l : List Int} (h : l.length = 5) : l = [l.getD 0 0, l.getD 1 0, l.getD 2 0, l.getD 3 0, l.getD 4 0] := by
  match l, h with
  | [a, b, c, d, e], _ => rfl
theorem flatMap_same {α β : Type} (f g : α → List β) : ∀ (l : List α), (∀ x ∈ l, f x = g x) → l.flatMap f = l.flatMap g
  | [], _ => rfl
  | x :: r, h => by rw [List.flatMap_cons, List.flatMap_cons, h x (List.mem_cons_self ..), flatMap_same f g r (fun y hy => h y (List.mem_cons_of_mem _ hy))]
theorem place_field : ∃ fs, Try.prog.underlying 35 = some (.struct fs) ∧ ∀ i, i < 5 → ∃ f, fs[i]? = some f ∧ f.offset = i ∧ f.type = 3 := by
  refine ⟨_, Try.underlying35, fun i hi => ?_⟩
  have : i = 0 ∨ i = 1 ∨ i = 2 ∨ i = 3 ∨ i = 4 := by omega
  rcases this with rfl | rfl | rfl | rfl | rfl <;> exact ⟨_, rfl, rfl, rfl⟩
theorem open_pls {H : Type} {enc : TypeId × Value → H} {W : World} {base fuel : Nat} {held : Bool} {a : Option Addr} {n c : Nat} {x : DataW H × List MemPlace} (h : DataW.trod enc Try.prog W base (fun _ => true) held fuel 23 (Value.slice a n c).cells.toList = some x) :
    ∃ ps : List Pl, Sl W a n c 5 (pcs ps) ∧ ∀ i, i < n → -9223372036854775808 ≤ (ps.getD i plz).2.2.1 ∧ (ps.getD i plz).2.2.1 ≤ 9223372036854775807 := by
  obtain ⟨fs, hfs, hf⟩ := place_field
  obtain ⟨q, hq, hs⟩ := open_structs (by decide) Try.underlying23 hfs Try.underlying3 (by kernel_rfl) (by kernel_rfl) hf h
  have hpc : ((List.range n).flatMap fun i => ints .i64 (q i)) = pcs ((List.range n).map fun i => ((q i).getD 0 0, (q i).getD 1 0, (q i).getD 2 0, (q i).getD 3 0, (q i).getD 4 0)) := by
    unfold pcs
    rw [List.flatMap_map]
    refine flatMap_same _ _ _ fun i hi => ?_
    have h5 := list5 (hq i (by simpa using hi)).1
    rw [h5]
    rfl
  rw [hpc] at hs
  refine ⟨_, hs, fun i hi => ?_⟩
  have hg : ((List.range n).map fun i => ((q i).getD 0 0, (q i).getD 1 0, (q i).getD 2 0, (q i).getD 3 0, (q i).getD 4 0)).getD i plz = ((q i).getD 0 0, (q i).getD 1 0, (q i).getD 2 0, (q i).getD 3 0, (q i).getD 4 0) := by simp [hi]
  rw [hg]
  have hl := (hq i hi).1
  have hm : (q i).getD 2 0 ∈ q i := by
    rw [List.getD_eq_getElem?_getD, List.getElem?_eq_getElem (by omega)]
    exact List.getElem_mem _
  exact wf_i64 ((hq i hi).2 _ hm)
end Go.Proofs.Ythcecnolmhillaa
