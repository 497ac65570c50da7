/- Frames: a tag that came in by value, a row of tags that came in. -/
import Derived.Test.YtnhcmibngcmebaaReg10
import Derived.Test.YtnhcmibngcmebaaFr
import Derived.Deep.Strs
import Derived.Lib.SmallJoins
namespace Go.Proofs.Ytnhcmibngcmebaa
open Go.ChangeShapes Go.WideShapes Go.ChangeAt Go.RowKit Go.Deep Tt
set_option linter.unusedVariables false

theorem len3 {α : Type} {l : List α} (h : l.length = 3) : ∃ a b c, l = [a, b, c] := by
  match l, h with
  | [a, b, c], _ => exact ⟨a, b, c, rfl⟩
theorem len4 {α : Type} {l : List α} (h : l.length = 4) : ∃ a b c d, l = [a, b, c, d] := by
  match l, h with
  | [a, b, c, d], _ => exact ⟨a, b, c, d, rfl⟩

theorem flat4_len (f : Nat → List Value) (hf : ∀ i, (f i).length = 4) : ∀ n, ((List.range n).flatMap f).length = n * 4
  | 0 => rfl
  | n + 1 => by
    rw [List.range_succ, List.flatMap_append, List.length_append, flat4_len f hf n]
    simp [hf]
    omega
theorem flat4_get (f : Nat → List Value) (hf : ∀ i, (f i).length = 4) : ∀ (n i j : Nat), i < n → j < 4 → ((List.range n).flatMap f)[i * 4 + j]? = (f i)[j]?
  | n + 1, i, j, hi, hj => by
    rw [List.range_succ, List.flatMap_append]
    by_cases h : i < n
    · rw [List.getElem?_append_left (by rw [flat4_len f hf n]; omega)]
      exact flat4_get f hf n i j h hj
    · obtain rfl : i = n := by omega
      rw [List.getElem?_append_right (by rw [flat4_len f hf i]; omega), flat4_len f hf i]
      simp

section
variable {H : Type} {enc : TypeId × Value → H} {W : World} {base : Nat} {held : Bool}
theorem value_cells {fuel : Nat} {cs : List Value} {x : DataW H × List MemPlace} (h : DataW.trod enc Try.prog W base (fun _ => true) held fuel 24 cs = some x) :
    ∃ (y c : Int) (a : Option Addr) (n p : Nat) (d : List Int), cs = [.int .i64 y, .int .i64 c, .slice a n p] ∧ Sl W a n p 1 (ints .u8 d) ∧ Byt d := by
  obtain ⟨y0, y1, y2, n, _, hl, h0, h1, h2⟩ := trod_struct3 Try.underlying24 h
  rw [show Try.prog.cellsOf 24 = 3 by kernel_rfl] at hl
  obtain ⟨c0, c1, c2, rfl⟩ := len3 hl
  · skip
    obtain ⟨m0, e0, _, _⟩ := DataW.trod_int Try.underlying3 h0
    obtain ⟨m1, e1, _, _⟩ := DataW.trod_int Try.underlying3 h1
    have e0' : c0 = .int .i64 m0 := by
      have e : ([c0, c1, c2].drop 0).take (Try.prog.cellsOf 3) = [c0] := by rw [show Try.prog.cellsOf 3 = 1 by kernel_rfl]; rfl
      have := e.symm.trans e0
      simpa using this
    have e1' : c1 = .int .i64 m1 := by
      have e : ([c0, c1, c2].drop 1).take (Try.prog.cellsOf 3) = [c1] := by rw [show Try.prog.cellsOf 3 = 1 by kernel_rfl]; rfl
      have := e.symm.trans e1
      simpa using this
    have e2 : ([c0, c1, c2].drop 2).take (Try.prog.cellsOf 22) = [c2] := by rw [show Try.prog.cellsOf 22 = 1 by kernel_rfl]; rfl
    have h2' : DataW.trod enc Try.prog W base (fun _ => true) held n 22 [c2] = some y2 := by rw [← e2]; exact h2
    obtain ⟨a, l, p, hc⟩ := Go.Joins.slice_form Try.underlying22 h2'
    simp only [List.cons.injEq, and_true] at hc
    subst hc
    obtain ⟨d, hs, hb⟩ := open_bytes Try.underlying22 Try.underlying5 (by kernel_rfl) h2' rfl
    exact ⟨m0, m1, a, l, p, d, by rw [e0', e1'], hs, hb⟩
theorem tag_cells {fuel : Nat} {cs : List Value} {x : DataW H × List MemPlace} (h : DataW.trod enc Try.prog W base (fun _ => true) held fuel 26 cs = some x) :
    ∃ (t y c : Int) (a : Option Addr) (n p : Nat) (d : List Int), cs = [.int .i64 t, .int .i64 y, .int .i64 c, .slice a n p] ∧ (Lit.int .i64 t).wf = true ∧ Sl W a n p 1 (ints .u8 d) ∧ Byt d := by
  obtain ⟨y0, y1, n, _, hl, h0, h1⟩ := trod_struct2 Try.underlying26 h
  rw [show Try.prog.cellsOf 26 = 4 by kernel_rfl] at hl
  obtain ⟨c0, c1, c2, c3, rfl⟩ := len4 hl
  · skip
    obtain ⟨m0, e0, _, hw⟩ := DataW.trod_int Try.underlying3 h0
    have e0' : c0 = .int .i64 m0 := by
      have e : ([c0, c1, c2, c3].drop 0).take (Try.prog.cellsOf 3) = [c0] := by rw [show Try.prog.cellsOf 3 = 1 by kernel_rfl]; rfl
      have := e.symm.trans e0
      simpa using this
    have e1 : ([c0, c1, c2, c3].drop 1).take (Try.prog.cellsOf 24) = [c1, c2, c3] := by rw [show Try.prog.cellsOf 24 = 3 by kernel_rfl]; rfl
    have h1' : DataW.trod enc Try.prog W base (fun _ => true) held n 24 [c1, c2, c3] = some y1 := by rw [← e1]; exact h1
    obtain ⟨y, c, a, l, p, d, hc, hs, hb⟩ := value_cells h1'
    exact ⟨m0, y, c, a, l, p, d, by rw [e0', hc], hw, hs, hb⟩

theorem agg_cells (cs : Array Value) : (Value.agg cs).cells.toList = cs.toList := rfl
theorem agg_of {cs : Array Value} {l : List Value} (h : cs.toList = l) : Value.agg cs = .agg l.toArray := by
  subst h
  rfl
set_option maxRecDepth 100000 in
theorem open_tag {r : Reach} {v : Value} {d : DataW H} {p : List MemPlace} {b0 : Nat} (hv : Value.okWide Try.prog W r b0 26 v) (h : DataW.Trod enc Try.prog W base (fun _ => true) held 26 v d p) :
    ∃ (t y c : Int) (a : Option Addr) (n cp : Nat) (l : List Int), v = .agg #[.int .i64 t, .int .i64 y, .int .i64 c, .slice a n cp] ∧ (Lit.int .i64 t).wf = true ∧ Sl W a n cp 1 (ints .u8 l) ∧ Byt l := by
  obtain ⟨cs, rfl, hsz⟩ := okWide_struct Try.underlying26 hv
  obtain ⟨fuel, hf⟩ := h
  rw [agg_cells] at hf
  obtain ⟨t, y, c, a, n, cp, l, hc, hw, hs, hb⟩ := tag_cells hf
  refine ⟨t, y, c, a, n, cp, l, ?_, hw, hs, hb⟩
  exact agg_of hc

theorem open_tags {fuel : Nat} {a : Option Addr} {n cp : Nat} {x : DataW H × List MemPlace} (h : DataW.trod enc Try.prog W base (fun _ => true) held fuel 27 (Value.slice a n cp).cells.toList = some x) :
    ∃ ts, Ts W a n cp ts ∧ ∀ x ∈ ts, TgOk x := by
  rcases DataW.trod_slice Try.underlying27 h with ⟨hcs, _⟩ | ⟨ad, len, cap, elems, rest, m, _, hcs, _, hb, hl, hm, hlen, hel, _, _⟩
  · simp [Value.cells] at hcs
    obtain ⟨rfl, rfl, rfl⟩ := hcs
    exact ⟨[], ⟨⟨[], Sl.nil _ _, fun i hi => by omega⟩, rfl⟩, fun x hx => by cases hx⟩
  · simp [Value.cells] at hcs
    obtain ⟨rfl, rfl, rfl⟩ := hcs
    have ck : Try.prog.cellsOf 26 = 4 := by kernel_rfl
    rw [ck] at hel
    have each : ∀ i, i < n → ∃ (t y c : Int) (a' : Option Addr) (n' p' : Nat) (d : List Int), (∀ j v, [Value.int .i64 t, .int .i64 y, .int .i64 c, .slice a' n' p'][j]? = some v → W.cell? (ad.add (i * 4 + j)) = some v) ∧ (Lit.int .i64 t).wf = true ∧ Sl W a' n' p' 1 (ints .u8 d) ∧ Byt d := fun i hi => by
      have h1 := hel i hi
      rw [List.getElem?_eq_getElem (by omega)] at h1
      obtain ⟨cs', hc, ht⟩ := Option.bind_eq_some_iff.1 h1
      obtain ⟨t, y, c, a', n', p', d, rfl, hw, hs, hbd⟩ := tag_cells ht
      refine ⟨t, y, c, a', n', p', d, fun j v hj => ?_, hw, hs, hbd⟩
      obtain ⟨_, hcl, hcc⟩ := World.cells?_some hc
      have hj4 : j < 4 := by simpa using (List.getElem?_eq_some_iff.1 hj).1
      rw [← hj, ← hcc j hj4, Addr.add_add]
    have hex : ∀ i, ∃ q : Int × Int × Int × Option Addr × Nat × Nat × List Int, i < n → (∀ j v, [Value.int .i64 q.1, .int .i64 q.2.1, .int .i64 q.2.2.1, .slice q.2.2.2.1 q.2.2.2.2.1 q.2.2.2.2.2.1][j]? = some v → W.cell? (ad.add (i * 4 + j)) = some v) ∧ (Lit.int .i64 q.1).wf = true ∧ Sl W q.2.2.2.1 q.2.2.2.2.1 q.2.2.2.2.2.1 1 (ints .u8 q.2.2.2.2.2.2) ∧ Byt q.2.2.2.2.2.2 := fun i => by
      by_cases hi : i < n
      · obtain ⟨t, y, c, a', n', p', d, h1⟩ := each i hi
        exact ⟨(t, y, c, a', n', p', d), fun _ => h1⟩
      · exact ⟨(0, 0, 0, none, 0, 0, []), fun h0 => absurd h0 hi⟩
    obtain ⟨q, hq⟩ := Classical.axiomOfChoice hex
    refine ⟨(List.range n).map fun i => ((q i).1, (q i).2.1, (q i).2.2.1, (q i).2.2.2.2.2.2), ⟨⟨(List.range n).flatMap fun i => [Value.int .i64 (q i).1, .int .i64 (q i).2.1, .int .i64 (q i).2.2.1, .slice (q i).2.2.2.1 (q i).2.2.2.2.1 (q i).2.2.2.2.2.1], ?_, ?_⟩, by simp⟩, ?_⟩
    · refine ⟨flat4_len _ (fun _ => rfl) n, hl, hm, fun i hi => ?_, fun he => by cases he⟩
      have h0 := (hq 0 (by omega)).1 0 _ rfl
      rw [Nat.zero_mul, Nat.zero_add, add_zero_addr] at h0
      obtain ⟨e, hlt⟩ := cell_spot h0
      refine ⟨ad.block, ad.off, by rw [← e], hlt, fun j v hj => ?_⟩
      have hjn : j < n * 4 := by
        have := (List.getElem?_eq_some_iff.1 hj).1
        rwa [flat4_len _ (fun _ => rfl)] at this
      have hj2 := flat4_get (fun i => [Value.int .i64 (q i).1, .int .i64 (q i).2.1, .int .i64 (q i).2.2.1, .slice (q i).2.2.2.1 (q i).2.2.2.2.1 (q i).2.2.2.2.2.1]) (fun _ => rfl) n (j / 4) (j % 4) (by omega) (by omega)
      rw [show j / 4 * 4 + j % 4 = j by omega] at hj2
      have h1 := (hq (j / 4) (by omega)).1 (j % 4) v (hj2.symm.trans hj)
      rw [show j / 4 * 4 + j % 4 = j by omega] at h1
      rw [e, mk_add] at h1
      exact h1
    · intro i hi
      have g := fun j hj => flat4_get (fun i => [Value.int .i64 (q i).1, .int .i64 (q i).2.1, .int .i64 (q i).2.2.1, .slice (q i).2.2.2.1 (q i).2.2.2.2.1 (q i).2.2.2.2.2.1]) (fun _ => rfl) n i j hi hj
      have hget : ((List.range n).map fun i => ((q i).1, (q i).2.1, (q i).2.2.1, (q i).2.2.2.2.2.2)).getD i (0, 0, 0, []) = ((q i).1, (q i).2.1, (q i).2.2.1, (q i).2.2.2.2.2.2) := by
        rw [List.getD_eq_getElem?_getD, List.getElem?_map, List.getElem?_range hi]; rfl
      rw [hget]
      exact ⟨(q i).2.2.2.1, (q i).2.2.2.2.1, (q i).2.2.2.2.2.1, by simpa using g 0 (by omega), by simpa using g 1 (by omega), by simpa using g 2 (by omega), by simpa using g 3 (by omega), (hq i hi).2.2.1⟩
    · intro x hx
      obtain ⟨i, hi, rfl⟩ := List.mem_map.1 hx
      have h1 := hq i (by simpa using hi)
      exact ⟨h1.2.1, h1.2.2.2⟩
end
end Go.Proofs.Ytnhcmibngcmebaa
