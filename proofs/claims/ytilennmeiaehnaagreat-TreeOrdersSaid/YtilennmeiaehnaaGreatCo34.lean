/- Chapter 20: how a tree is laid: its items, one behind the other; no two have the same name. Plain. -/
import Derived.Test.YtilennmeiaehnaaGreatCo33
import Derived.Test.YtilennmeiaehnaaGreatCo28
namespace Go.Proofs.YtilennmeiaehnaaGreat
open Go.RowKit Tt
set_option linter.unusedVariables false
set_option linter.unusedSimpArgs false

def outV (x : Tgs) : Int := outS x.2.1 x.2.2.1
theorem outV_nn (x : Tgs) : 0 ≤ outV x := by
  unfold outV outS
  have := longS_le x.2.1 x.2.2.1
  split <;> omega
def itmV (no : Int) (ts : List Tgs) : List Itm := (ts.filter fun x => decide (0 < outV x)).map fun x => (3, no, x.1, outV x)
def itmB (no : Int) (b : List Int) : List Itm := if 0 < b.length then [(4, no, 0, (b.length : Int))] else []
def itmSs {f : Nat} (rec : DirT f → Int → List Itm) : List (Int × DirT f) → Int → List Itm
  | [], _ => []
  | s :: ss, no => rec s.2 no ++ itmSs rec ss (no + (flatS f s.2).length)
/-- what is laid of a directory and all within it -/
def itmD : (f : Nat) → DirT f → Int → List Itm
  | 0, _, _ => []
  | f + 1, d, no => (2, no, 0, 6 + 12 * ((entN d.1.length d.2.1.length d.2.2.length : Nat) : Int)) :: (itmV no d.1 ++ (itmSs (itmD f) d.2.1 (no + 1) ++ itmB no d.2.2))
theorem itmD_succ (f : Nat) (d : DirT (f + 1)) (no : Int) : itmD (f + 1) d no =
    (2, no, 0, 6 + 12 * ((entN d.1.length d.2.1.length d.2.2.length : Nat) : Int)) :: (itmV no d.1 ++ (itmSs (itmD f) d.2.1 (no + 1) ++ itmB no d.2.2)) := rfl
def itmT (f : Nat) (ds : List (DirT f)) : List Itm := (1, -1, 0, 8) :: itmSs (itmD f) (prs f ds) 0
theorem vals_push (no : Int) : ∀ (ts : List Tgs) (l : List Spt), valsS no ts l = (itmV no ts).foldl pushI l
  | [], l => rfl
  | x :: ts, l => by
    have ih := vals_push no ts
    unfold valsS at ih ⊢
    unfold itmV at ih ⊢
    rw [List.foldl_cons, List.filter_cons]
    by_cases h : 0 < outV x
    · rw [if_pos (by simpa [outV] using h), if_pos (by simpa using h), List.map_cons, List.foldl_cons]
      exact ih _
    · rw [if_neg (by simpa [outV] using h), if_neg (by simpa using h)]
      exact ih _
theorem subs_push (f : Nat) (ih : ∀ (d : DirT f) (no : Int) (l : List Spt), layS f d no l = (itmD f d no).foldl pushI l) : ∀ (ss : List (Int × DirT f)) (no : Int) (l : List Spt), (laySubs f ss (l, no)).1 = (itmSs (itmD f) ss no).foldl pushI l
  | [], _, _ => rfl
  | s :: ss, no, l => by
    rw [laySubs_cons]
    show (laySubs f ss (layS f s.2 no l, no + (flatS f s.2).length)).1 = _
    rw [subs_push f ih ss, ih, ← List.foldl_append]
    rfl
theorem lay_push : ∀ (f : Nat) (d : DirT f) (no : Int) (l : List Spt), layS f d no l = (itmD f d no).foldl pushI l
  | 0, _, _, _ => rfl
  | f + 1, d, no, l => by
    rw [layS_succ, itmD_succ, List.foldl_cons, List.foldl_append, List.foldl_append, ← vals_push]
    have hs := subs_push f (lay_push f) d.2.1 (no + 1) (valsS no d.1 (addS l 2 no 0 (6 + 12 * (entN d.1.length d.2.1.length d.2.2.length : Nat))))
    rw [hs]
    unfold itmB
    split <;> rfl
theorem layT_eq (f : Nat) (ds : List (DirT f)) : layT f ds = placed 0 (itmT f ds) ∧ endS (layT f ds) = endP 0 (itmT f ds) := by
  have h := push_all (itmT f ds) []
  have e : layT f ds = (itmT f ds).foldl pushI [] := by
    unfold layT
    rw [subs_push f (lay_push f)]
    rfl
  rw [e, h.2, h.1]
  exact ⟨rfl, rfl⟩
theorem itmSs_mem {f : Nat} {rec : DirT f → Int → List Itm} : ∀ {ss : List (Int × DirT f)} {no : Int} {x : Itm}, x ∈ itmSs rec ss no → ∃ j, j < ss.length ∧ x ∈ rec (ss.getD j (0, dirZ f)).2 (no + (flats f (ss.take j)).length)
  | [], _, _, h => by cases h
  | s :: ss, no, x, h => by
    rcases List.mem_append.1 h with h | h
    · exact ⟨0, by simp, by simpa [flats] using h⟩
    · obtain ⟨j, hj, hx⟩ := itmSs_mem h
      refine ⟨j + 1, by simpa using hj, ?_⟩
      have e : no + (flatS f s.2).length + (flats f (ss.take j)).length = no + (flats f ((s :: ss).take (j + 1))).length := by
        rw [List.take_succ_cons]
        unfold flats
        rw [List.flatMap_cons, List.length_append]
        omega
      rw [e] at hx
      simpa using hx
theorem itmSs_get {f : Nat} {rec : DirT f → Int → List Itm} : ∀ {ss : List (Int × DirT f)} {no : Int} {j : Nat}, j < ss.length → ∀ x ∈ rec (ss.getD j (0, dirZ f)).2 (no + (flats f (ss.take j)).length), x ∈ itmSs rec ss no
  | [], _, _, h, _, _ => by simp at h
  | s :: ss, no, 0, _, x, hx => List.mem_append.2 (.inl (by simpa [flats] using hx))
  | s :: ss, no, j + 1, h, x, hx => by
    refine List.mem_append.2 (.inr (itmSs_get (j := j) (by simpa using h) x ?_))
    have e : no + (flatS f s.2).length + (flats f (ss.take j)).length = no + (flats f ((s :: ss).take (j + 1))).length := by
      rw [List.take_succ_cons]
      unfold flats
      rw [List.flatMap_cons, List.length_append]
      omega
    rw [e]
    simpa using hx
theorem flats_get_le (f : Nat) (ss : List (Int × DirT f)) {j : Nat} (h : j < ss.length) : (flats f (ss.take j)).length + (flatS f (ss.getD j (0, dirZ f)).2).length ≤ (flats f ss).length := by
  have := flats_take_le f ss (j + 1)
  rw [flats_step f ss h] at this
  rw [getD_el h]
  exact this
/-- all items of a directory bear its number, or one of those behind -/
theorem itmD_no : ∀ (f : Nat) (d : DirT f) (no : Int) (x : Itm), x ∈ itmD f d no → no ≤ x.2.1 ∧ x.2.1 < no + (flatS f d).length ∧ 0 ≤ x.2.2.2 ∧ 2 ≤ x.1 ∧ x.1 ≤ 4
  | 0, _, _, _, h => by cases h
  | f + 1, d, no, x, h => by
    have e : (flatS (f + 1) d).length = (flats f d.2.1).length + 1 := by rw [flatS_succ]; rfl
    rw [itmD_succ] at h
    rw [e]
    rcases List.mem_cons.1 h with rfl | h
    · simp; omega
    rcases List.mem_append.1 h with h | h
    · obtain ⟨t, ht, rfl⟩ := List.mem_map.1 h
      have := outV_nn t
      simp; omega
    rcases List.mem_append.1 h with h | h
    · obtain ⟨j, hj, hx⟩ := itmSs_mem h
      have h1 := itmD_no f _ _ _ hx
      have h2 := flats_get_le f d.2.1 hj
      omega
    · unfold itmB at h
      split at h
      · obtain rfl : x = _ := by simpa using h
        simp; omega
      · cases h
/-- the tags of each directory are others -/
def DisD : (f : Nat) → DirT f → Prop
  | 0, _ => True
  | f + 1, d => (d.1.Pairwise fun x y => x.1 ≠ y.1) ∧ ∀ s ∈ d.2.1, DisD f s.2
theorem nodup_map_of {α β : Type} {g : α → β} {l : List α} (h : l.Pairwise fun x y => g x ≠ g y) : (l.map g).Nodup := by
  unfold List.Nodup
  rw [List.pairwise_map]
  exact h
theorem itmSs_keys {f : Nat} (ih : ∀ (d : DirT f) (no : Int), DisD f d → ((itmD f d no).map keyI).Nodup) : ∀ (ss : List (Int × DirT f)) (no : Int), (∀ s ∈ ss, DisD f s.2) → ((itmSs (itmD f) ss no).map keyI).Nodup
  | [], _, _ => List.nodup_nil
  | s :: ss, no, h => by
    show ((itmD f s.2 no ++ itmSs (itmD f) ss (no + (flatS f s.2).length)).map keyI).Nodup
    rw [List.map_append, List.nodup_append]
    refine ⟨ih s.2 no (h s (List.mem_cons_self ..)), itmSs_keys ih ss _ (fun x hx => h x (List.mem_cons_of_mem _ hx)), ?_⟩
    intro a ha b hb e
    obtain ⟨x, hx, rfl⟩ := List.mem_map.1 ha
    obtain ⟨y, hy, rfl⟩ := List.mem_map.1 hb
    obtain ⟨j, hj, hy⟩ := itmSs_mem hy
    have h1 := itmD_no _ _ _ _ hx
    have h2 := itmD_no _ _ _ _ hy
    have h3 : x.2.1 = y.2.1 := congrArg (fun k => k.2.1) e
    omega
theorem itmD_keys : ∀ (f : Nat) (d : DirT f) (no : Int), DisD f d → ((itmD f d no).map keyI).Nodup
  | 0, _, _, _ => List.nodup_nil
  | f + 1, d, no, h => by
    obtain ⟨h1, h2⟩ := h
    have hV : ∀ x ∈ itmV no d.1, x.1 = 3 ∧ x.2.1 = no := fun x hx => by
      obtain ⟨t, ht, rfl⟩ := List.mem_map.1 hx; exact ⟨rfl, rfl⟩
    have hB : ∀ x ∈ itmB no d.2.2, x.1 = 4 ∧ x.2.1 = no := fun x hx => by
      unfold itmB at hx
      split at hx
      · obtain rfl : x = _ := by simpa using hx
        exact ⟨rfl, rfl⟩
      · cases hx
    have hS : ∀ x ∈ itmSs (itmD f) d.2.1 (no + 1), no < x.2.1 := fun x hx => by
      obtain ⟨j, hj, hx⟩ := itmSs_mem hx
      have := itmD_no _ _ _ _ hx
      omega
    rw [itmD_succ, List.map_cons, List.nodup_cons, List.map_append, List.nodup_append, List.map_append, List.nodup_append]
    refine ⟨?_, ?_, ⟨itmSs_keys (itmD_keys f) _ _ h2, ?_, ?_⟩, ?_⟩
    · intro hm
      rw [← List.map_append, ← List.map_append] at hm
      obtain ⟨x, hx, e⟩ := List.mem_map.1 hm
      have e1 : x.1 = 2 := congrArg (fun k => k.1) e
      have e2 : x.2.1 = no := congrArg (fun k => k.2.1) e
      rcases List.mem_append.1 hx with hx | hx
      · have := hV x hx; omega
      rcases List.mem_append.1 hx with hx | hx
      · have := hS x hx; omega
      · have := hB x hx; omega
    · unfold itmV
      rw [List.map_map]
      refine nodup_map_of ((List.Pairwise.filter _ h1).imp fun {a b} hab e => hab ?_)
      exact congrArg (fun k => k.2.2) e
    · unfold itmB
      split <;> simp
    · intro a ha b hb e
      obtain ⟨x, hx, rfl⟩ := List.mem_map.1 ha
      obtain ⟨y, hy, rfl⟩ := List.mem_map.1 hb
      have e2 : x.2.1 = y.2.1 := congrArg (fun k => k.2.1) e
      have := hS x hx
      have := hB y hy
      omega
    · intro a ha b hb e
      obtain ⟨x, hx, rfl⟩ := List.mem_map.1 ha
      have h3 := hV x hx
      rw [← List.map_append] at hb
      obtain ⟨y, hy, rfl⟩ := List.mem_map.1 hb
      have e1 : x.1 = y.1 := congrArg (fun k => k.1) e
      have e2 : x.2.1 = y.2.1 := congrArg (fun k => k.2.1) e
      rcases List.mem_append.1 hy with hy | hy
      · have := hS y hy; omega
      · have := hB y hy; omega
theorem itmT_nn (f : Nat) (ds : List (DirT f)) : ∀ x ∈ itmT f ds, 0 ≤ x.2.2.2 := fun x hx => by
  rcases List.mem_cons.1 hx with rfl | hx
  · decide
  · obtain ⟨j, _, hx⟩ := itmSs_mem hx
    exact (itmD_no _ _ _ _ hx).2.2.1
theorem itmT_keys (f : Nat) (ds : List (DirT f)) (h : ∀ d ∈ ds, DisD f d) : ((itmT f ds).map keyI).Nodup := by
  unfold itmT
  rw [List.map_cons, List.nodup_cons]
  refine ⟨fun hm => ?_, itmSs_keys (itmD_keys f) _ _ fun s hs => ?_⟩
  · obtain ⟨x, hx, e⟩ := List.mem_map.1 hm
    obtain ⟨j, _, hx⟩ := itmSs_mem hx
    have h1 := itmD_no _ _ _ _ hx
    have e1 : x.1 = 1 := congrArg (fun k => k.1) e
    omega
  · obtain ⟨d, hd, rfl⟩ := List.mem_map.1 hs
    exact h d hd
theorem layT_keys (f : Nat) (ds : List (DirT f)) (h : ∀ d ∈ ds, DisD f d) : ((layT f ds).map keyS).Nodup := by
  rw [(layT_eq f ds).1, placed_keys]
  exact itmT_keys f ds h
theorem layT_ahead (f : Nat) (ds : List (DirT f)) : (layT f ds).Pairwise Ahead := by
  rw [(layT_eq f ds).1]
  exact placed_ahead _ _ (Int.le_refl _) (itmT_nn f ds)
/-- what is laid has its spot there -/
theorem layT_spot {f : Nat} {ds : List (DirT f)} (h : ∀ d ∈ ds, DisD f d) {x : Itm} (hx : x ∈ itmT f ds) : ∃ s ∈ layT f ds, keyS s = keyI x ∧ s.2.2.2.2 = x.2.2.2 ∧ s.2.2.2.1 = atS (layT f ds) x.1 x.2.1 x.2.2.1 ∧ (layT f ds).any (atP x.1 x.2.1 x.2.2.1) = true ∧ 0 ≤ s.2.2.2.1 ∧ s.2.2.2.1 % 2 = 0 ∧ s.2.2.2.1 + x.2.2.2 ≤ endS (layT f ds) := by
  have he := layT_eq f ds
  obtain ⟨s, h1, h2, h3⟩ := placed_mem (itmT f ds) 0 x hx
  have h4 := placed_in (itmT f ds) 0 (Int.le_refl _) (itmT_nn f ds) s h1
  rw [← he.1] at h1
  rw [← he.2] at h4
  have h5 := atS_key (layT_keys f ds h) h1
  have e1 : s.1 = x.1 := congrArg (fun k => k.1) h2
  have e2 : s.2.1 = x.2.1 := congrArg (fun k => k.2.1) h2
  have e3 : s.2.2.1 = x.2.2.1 := congrArg (fun k => k.2.2) h2
  rw [e1, e2, e3] at h5
  exact ⟨s, h1, h2, h3, h5.2.symm, h5.1, h4.1, h4.2.1, by rw [← h3]; exact h4.2.2.2⟩
theorem fits_of {f : Nat} {ds : List (DirT f)} (h : ∀ d ∈ ds, DisD f d) {a b c : Int} {m : Int} (hx : ((a, b, c, m) : Itm) ∈ itmT f ds) {n k : Nat} (hn : endS (layT f ds) ≤ n) (hk : (k : Int) ≤ m) : Fits (layT f ds) n a b c k := by
  obtain ⟨s, h1, h2, h3, h4, h5, h6, h7, h8⟩ := layT_spot h hx
  simp only at h4 h5 h8
  refine ⟨h5, by rw [← h4]; exact h6, ?_⟩
  rw [← h4]
  omega
end Go.Proofs.YtilennmeiaehnaaGreat
