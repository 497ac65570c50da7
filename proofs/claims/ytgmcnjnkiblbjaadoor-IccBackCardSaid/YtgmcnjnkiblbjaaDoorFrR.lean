import Derived.Test.YtgmcnjnkiblbjaaDoorFr
import Derived.Test.YtgmcnjnkiblbjaaDoorIccA
namespace Go.Proofs.YtgmcnjnkiblbjaaDoor
open Go.ChangeShapes Go.WideShapes Go.ChangeAt Go.RowKit Go.Deep Tt
set_option linter.unusedVariables false

theorem weightsAll_mem {H : Type} {P : Program} {e : TypeId} : ∀ {l : List (DataW H)} {d : DataW H} {m : Nat}, d ∈ l → m ∈ d.weights P e → m ∈ DataW.weightsAll P e l
  | x :: r, d, m, hd, hm => by
    simp only [DataW.weightsAll, List.mem_append]
    rcases List.mem_cons.1 hd with rfl | h
    · exact .inl hm
    · exact .inr (weightsAll_mem h hm)
  | [], _, _, hd, _ => by cases hd

/-- Rows of bytes that came in. -/
theorem open_rows {H : Type} {enc : TypeId × Value → H} {P : Program} {W : World} {t e q : TypeId} {base : Nat} {spare : Nat → Bool} {held : Bool} {a : Option Addr} {n c fuel : Nat} {x : DataW H × List MemPlace}
    (ht : P.underlying t = some (.slice e)) (he : P.underlying e = some (.slice q)) (hq : P.underlying q = some (.int .u8)) (ce : P.cellsOf e = 1) (cq : P.cellsOf q = 1) (cb : P.bytesOf q = 1)
    (h : DataW.trod enc P W base spare held fuel t (Value.slice a n c).cells.toList = some x) (hs : spare = fun _ => true)
    {ts : List TypeId} {ds : List (DataW H)} (hsz : (DataW.weightsEach P ts ds).all (· ≤ reachBytes) = true) {j : Nat} (hts : ts[j]? = some t) (hds : ds[j]? = some x.1) :
    ∃ ls, Rs W a n c ls ∧ (∀ l ∈ ls, Byt l) ∧ ∀ l ∈ ls, l.length ≤ 140737488355328 := by
  subst hs
  rcases open_int_rows ht he hq ce cq h with ⟨hcs, _⟩ | ⟨y, len, cap, A, L, C, Z, hcs, _, hl, hm, hx, hrow⟩
  · simp [Value.cells] at hcs
    obtain ⟨rfl, rfl, rfl⟩ := hcs
    exact ⟨[], ⟨⟨[], Sl.nil _ _, fun i hi => by omega⟩, rfl⟩, (fun x hx => by cases hx), (fun x hx => by cases hx)⟩
  · simp [Value.cells] at hcs
    obtain ⟨rfl, rfl, rfl⟩ := hcs
    refine ⟨(List.range n).map fun r => (Z r).take (L r), ⟨⟨((List.range c).map fun r => Value.slice (A r) (L r) (C r)).take n, Sl.of_cells hl hm (by simp) (fun i v hv => ?_), fun i hi => ?_⟩, by simp⟩, fun l hl' => ?_, fun l hl' => ?_⟩
    · have hi : i < c := by
        have := (List.getElem?_eq_some_iff.1 hv).1
        simpa using this
      rw [List.getElem?_map, List.getElem?_range hi] at hv
      simp at hv
      rw [(hrow i hi).1, hv]
    · refine ⟨A i, L i, C i, ?_, ?_⟩
      · rw [List.getElem?_take, if_pos hi, List.getElem?_map, List.getElem?_range (by omega)]; rfl
      · have e2 : ((List.range n).map fun r => (Z r).take (L r)).getD i [] = (Z i).take (L i) := by
          rw [List.getD_eq_getElem?_getD, List.getElem?_map, List.getElem?_range hi]; rfl
        rw [e2]
        obtain ⟨_, h1, h2, h3, h4, h5, h6⟩ := hrow i (by omega)
        cases hA : A i with
        | none =>
          have h0 := h5 hA
          have hz : Z i = [] := List.eq_nil_of_length_eq_zero (by omega)
          have hL : L i = 0 := by omega
          rw [hz, hL, h0]
          exact Sl.nil _ _
        | some y => exact Sl.of_ints h1 h2 h3 (fun k hk => (h6 y hA).2 k (by omega))
    · obtain ⟨r, hr, rfl⟩ := List.mem_map.1 hl'
      obtain ⟨_, h1, h2, h3, h4, h5, h6⟩ := hrow r (by have := List.mem_range.1 hr; omega)
      exact (byt_wf h4).take _
    · obtain ⟨r, hr, rfl⟩ := List.mem_map.1 hl'
      obtain ⟨_, h1, h2, h3, h4, h5, h6⟩ := hrow r (by have := List.mem_range.1 hr; omega)
      rw [hx] at hds
      have hw : (Z r).length ≤ reachBytes := by
        cases hA : A r with
        | none => have := h5 hA; rw [h3, this]; exact Nat.zero_le _
        | some y =>
          have hmem : ((lits .u8 ((Z r).take (L r)) : List (DataW H)).length + (lits .u8 ((Z r).drop (L r)) : List (DataW H)).length) * P.bytesOf q ∈ (DataW.slice ((List.range n).map fun r => intRow (H := H) .u8 (A r) (L r) (Z r)) ((List.range (c - n)).map fun j => intRow .u8 (A (n + j)) (L (n + j)) (Z (n + j)))).weights P t := by
            simp only [DataW.weights, ht]
            refine List.mem_cons_of_mem _ (List.mem_append_left _ (weightsAll_mem (List.mem_map.2 ⟨r, hr, rfl⟩) ?_))
            simp only [intRow, hA, DataW.weights, he]
            exact List.mem_cons_self ..
          have := List.all_eq_true.1 hsz _ (DataW.weights_mem_each hts hds _ hmem)
          rw [cb] at this
          simp [lits] at this
          omega
      have : reachBytes ≤ 140737488355328 := by decide
      rw [List.length_take]
      omega
end Go.Proofs.YtgmcnjnkiblbjaaDoor
