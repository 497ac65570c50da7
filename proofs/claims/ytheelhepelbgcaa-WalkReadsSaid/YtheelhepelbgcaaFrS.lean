/- Frames: a row of shapes that came in. -/
import Derived.Test.YtheelhepelbgcaaFrN
import Derived.Test.YtheelhepelbgcaaSh1
import Derived.Lib.SmallJoins
namespace Go.Proofs.Ytheelhepelbgcaa
open Go.ChangeShapes Go.WideShapes Go.ChangeAt Go.RowKit Go.Deep Tt
set_option linter.unusedVariables false
set_option linter.unusedSimpArgs false

section
variable {H : Type} {enc : TypeId × Value → H} {W : World} {base : Nat} {held : Bool}
theorem lenn4 {α : Type} {l : List α} (h : l.length = 4) : ∃ a b c d, l = [a, b, c, d] := by
  match l, h with
  | [a, b, c, d], _ => exact ⟨a, b, c, d, rfl⟩
theorem flatMap_same {α β : Type} {l : List α} {f g : α → List β} (h : ∀ x ∈ l, f x = g x) : l.flatMap f = l.flatMap g := by
  induction l with
  | nil => rfl
  | cons x r ih => rw [List.flatMap_cons, List.flatMap_cons, h x (by simp), ih (fun y hy => h y (by simp [hy]))]
theorem open_links {fuel : Nat} {a : Option Addr} {n cp : Nat} {x : DataW H × List MemPlace} (h : DataW.trod enc Try.prog W base (fun _ => true) held fuel 33 (Value.slice a n cp).cells.toList = some x) :
    ∃ lks : List Lk, Sl W a n cp 2 (fl lkc lks) := by
  obtain ⟨q, hq, hs⟩ := open_structs (m := 2) (by decide) Try.underlying33 Try.underlying98 Try.underlying3 (by kernel_rfl) (by kernel_rfl) (fun i hi => by
    have : i = 0 ∨ i = 1 := by omega
    rcases this with rfl | rfl <;> exact ⟨_, rfl, rfl, rfl⟩) h
  refine ⟨(List.range n).map fun i => ((q i).getD 0 0, (q i).getD 1 0), ?_⟩
  have e : fl lkc ((List.range n).map fun i => ((q i).getD 0 0, (q i).getD 1 0)) = (List.range n).flatMap fun i => ints .i64 (q i) := by
    unfold fl
    rw [List.flatMap_map]
    refine flatMap_same (fun i hi => ?_)
    have h1 := (hq i (List.mem_range.1 hi)).1
    match q i, h1 with
    | [u, v], _ => rfl
  rw [e]
  exact hs
theorem shape_cells {fuel : Nat} {cs : List Value} {x : DataW H × List MemPlace} (h : DataW.trod enc Try.prog W base (fun _ => true) held fuel 35 cs = some x) :
    ∃ z : Shz, cs = shc z ∧ Sl W z.1.1 z.1.2.1 z.1.2.2 2 (fl lkc z.2.1) := by
  obtain ⟨xs, n, _, _, hl, hxl, hall⟩ := DataW.trod_struct Try.underlying35 h
  rw [show Program.cellsOf Try.prog 35 = 4 by kernel_rfl] at hl
  obtain ⟨c0, c1, c2, c3, rfl⟩ := lenn4 hl
  have ci : Program.cellsOf Try.prog 3 = 1 := by kernel_rfl
  have cl : Program.cellsOf Try.prog 33 = 1 := by kernel_rfl
  have h0 := hall 0 _ rfl
  have h1 := hall 1 _ rfl
  have h2 := hall 2 _ rfl
  have h3 := hall 3 _ rfl
  have g : ∀ i, i < 4 → ∃ y, xs[i]? = some y := fun i hi => ⟨xs[i]'(by rw [hxl]; exact hi), List.getElem?_eq_getElem _⟩
  obtain ⟨y0, hy0⟩ := g 0 (by decide)
  obtain ⟨y1, hy1⟩ := g 1 (by decide)
  obtain ⟨y2, hy2⟩ := g 2 (by decide)
  obtain ⟨y3, hy3⟩ := g 3 (by decide)
  rw [hy0] at h0
  rw [hy1] at h1
  rw [hy2] at h2
  rw [hy3] at h3
  have h0' : DataW.trod enc Try.prog W base (fun _ => true) held n 33 [c0] = some y0 := by
    have e : ([c0, c1, c2, c3].drop 0).take (Program.cellsOf Try.prog 33) = [c0] := by rw [cl]; rfl
    rw [← e]; exact h0
  have h1' : DataW.trod enc Try.prog W base (fun _ => true) held n 3 [c1] = some y1 := by
    have e : ([c0, c1, c2, c3].drop 1).take (Program.cellsOf Try.prog 3) = [c1] := by rw [ci]; rfl
    rw [← e]; exact h1
  have h2' : DataW.trod enc Try.prog W base (fun _ => true) held n 3 [c2] = some y2 := by
    have e : ([c0, c1, c2, c3].drop 2).take (Program.cellsOf Try.prog 3) = [c2] := by rw [ci]; rfl
    rw [← e]; exact h2
  have h3' : DataW.trod enc Try.prog W base (fun _ => true) held n 3 [c3] = some y3 := by
    have e : ([c0, c1, c2, c3].drop 3).take (Program.cellsOf Try.prog 3) = [c3] := by rw [ci]; rfl
    rw [← e]; exact h3
  obtain ⟨m1, e1, _, _⟩ := DataW.trod_int Try.underlying3 h1'
  obtain ⟨m2, e2, _, _⟩ := DataW.trod_int Try.underlying3 h2'
  obtain ⟨m3, e3, _, _⟩ := DataW.trod_int Try.underlying3 h3'
  obtain ⟨a, l, p, hc⟩ := Go.Joins.slice_form Try.underlying33 h0'
  simp only [List.cons.injEq, and_true] at hc e1 e2 e3
  subst hc e1 e2 e3
  obtain ⟨lks, hs⟩ := open_links h0'
  exact ⟨((a, l, p), lks, m1, m2, m3), rfl, hs⟩
theorem open_shapes {fuel : Nat} {a : Option Addr} {n cp : Nat} {x : DataW H × List MemPlace} (h : DataW.trod enc Try.prog W base (fun _ => true) held fuel 36 (Value.slice a n cp).cells.toList = some x) :
    ∃ zs, ShR W a n cp zs := by
  rcases DataW.trod_slice Try.underlying36 h with ⟨hcs, _⟩ | ⟨ad, len, cap, elems, rest, m, _, hcs, _, hb, hl, hm, hlen, hel, _, _⟩
  · simp [Value.cells] at hcs
    obtain ⟨rfl, rfl, rfl⟩ := hcs
    exact ⟨[], Sl.nil _ _, fun z hz => by cases hz⟩
  · simp [Value.cells] at hcs
    obtain ⟨rfl, rfl, rfl⟩ := hcs
    have ck : Program.cellsOf Try.prog 35 = 4 := by kernel_rfl
    rw [ck] at hel
    have each : ∀ i, i < n → ∃ z : Shz, (∀ j v, (shc z)[j]? = some v → W.cell? (ad.add (i * 4 + j)) = some v) ∧ Sl W z.1.1 z.1.2.1 z.1.2.2 2 (fl lkc z.2.1) := fun i hi => by
      have h1 := hel i hi
      rw [List.getElem?_eq_getElem (by omega)] at h1
      obtain ⟨cs', hc, ht⟩ := Option.bind_eq_some_iff.1 h1
      obtain ⟨z, rfl, hs⟩ := shape_cells ht
      refine ⟨z, fun j v hj => ?_, hs⟩
      obtain ⟨_, hcl, hcc⟩ := World.cells?_some hc
      have hj4 : j < 4 := by simpa [shc] using (List.getElem?_eq_some_iff.1 hj).1
      rw [← hj, ← hcc j hj4, Addr.add_add]
    have hex : ∀ i, ∃ z : Shz, i < n → (∀ j v, (shc z)[j]? = some v → W.cell? (ad.add (i * 4 + j)) = some v) ∧ Sl W z.1.1 z.1.2.1 z.1.2.2 2 (fl lkc z.2.1) := fun i => by
      by_cases hi : i < n
      · obtain ⟨z, h1⟩ := each i hi
        exact ⟨z, fun _ => h1⟩
      · exact ⟨shz0, fun h0 => absurd h0 hi⟩
    obtain ⟨q, hq⟩ := Classical.axiomOfChoice hex
    have e : fl shc ((List.range n).map q) = (List.range n).flatMap fun i => shc (q i) := by
      unfold fl
      rw [List.flatMap_map]
    refine ⟨(List.range n).map q, ?_, fun z hz => ?_⟩
    · rw [e]
      refine ⟨flatm_len 4 _ n (fun _ _ => rfl), hl, hm, fun i hi => ?_, fun he => by cases he⟩
      have h0 := (hq 0 (by omega)).1 0 _ rfl
      rw [Nat.zero_mul, Nat.zero_add, add_zero_addr] at h0
      obtain ⟨ea, hlt⟩ := cell_spot h0
      refine ⟨ad.block, ad.off, by rw [← ea], hlt, fun j v hj => ?_⟩
      have hjn : j < n * 4 := by
        have := (List.getElem?_eq_some_iff.1 hj).1
        rwa [flatm_len 4 _ n (fun _ _ => rfl)] at this
      have hj2 := flatm_get 4 (fun i => shc (q i)) n (fun _ _ => rfl) (j / 4) (j % 4) (by omega) (by omega)
      rw [show j / 4 * 4 + j % 4 = j by omega] at hj2
      have h1 := (hq (j / 4) (by omega)).1 (j % 4) v (hj2.symm.trans hj)
      rw [show j / 4 * 4 + j % 4 = j by omega] at h1
      rw [ea, mk_add] at h1
      exact h1
    · obtain ⟨i, hi, rfl⟩ := List.mem_map.1 hz
      exact (hq i (List.mem_range.1 hi)).2
end
end Go.Proofs.Ytheelhepelbgcaa
