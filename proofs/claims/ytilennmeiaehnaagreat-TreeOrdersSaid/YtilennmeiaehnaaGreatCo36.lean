/- Chapter 21: what the document writes stands apart; in another order it is what the program writes: the same bytes. Plain. | Chapter 21: a directory, and all within it, is written: the document. -/
import Derived.Test.YtilennmeiaehnaaGreatCo35
import Derived.Test.YtilennmeiaehnaaGreatCo27
import Derived.Test.YtilennmeiaehnaaGreatCo14
namespace Go.Proofs.YtilennmeiaehnaaGreat
open Go.RowKit Tt
set_option linter.unusedVariables false
set_option linter.unusedSimpArgs false

theorem filt_lt {α : Type} {p q : α → Bool} : ∀ {l : List α}, (∀ z ∈ l, p z = true → q z = true) → ∀ {x : α}, x ∈ l → q x = true → p x = false → (l.filter p).length < (l.filter q).length
  | [], _, _, h, _, _ => by cases h
  | a :: l, hpq, x, hx, hq, hp => by
    have hle : (l.filter p).length ≤ (l.filter q).length := by
      rw [← List.countP_eq_length_filter, ← List.countP_eq_length_filter]
      exact List.countP_mono_left fun z hz => hpq z (List.mem_cons_of_mem _ hz)
    rcases List.mem_cons.1 hx with rfl | hx
    · rw [List.filter_cons_of_pos hq, List.filter_cons_of_neg (by simp [hp]), List.length_cons]
      omega
    · have ih := filt_lt (fun z hz => hpq z (List.mem_cons_of_mem _ hz)) hx hq hp
      cases ha : p a with
      | true =>
        rw [List.filter_cons_of_pos ha, List.filter_cons_of_pos (hpq a (List.mem_cons_self ..) ha), List.length_cons, List.length_cons]
        omega
      | false =>
        rw [List.filter_cons_of_neg (by simp [ha])]
        cases hb : q a with
        | true => rw [List.filter_cons_of_pos hb, List.length_cons]; omega
        | false => rw [List.filter_cons_of_neg (by simp [hb])]; exact ih
theorem ahead_lt {es : List Ent} {x y : Ent} (hx : x ∈ es) (h : x.1 < y.1) : aheadE es x < aheadE es y := by
  unfold aheadE
  refine filt_lt (fun z _ hz => ?_) hx (by simpa using h) (by simp)
  simp only [decide_eq_true_eq] at hz ⊢
  omega
theorem ahead_sorted : ∀ {l : List Ent}, (l.Pairwise fun x y => x.1 < y.1) → ∀ {i : Nat} (h : i < l.length), (l.filter fun y => decide (y.1 < (l[i]).1)).length = i
  | [], _, _, h => by simp at h
  | a :: l, hp, 0, _ => by
    obtain ⟨h1, _⟩ := List.pairwise_cons.1 hp
    have : (a :: l).filter (fun y => decide (y.1 < a.1)) = [] := by
      rw [List.filter_eq_nil_iff]
      intro y hy
      rcases List.mem_cons.1 hy with rfl | hy
      · simp
      · have := h1 y hy
        simp; omega
    show ((a :: l).filter fun y => decide (y.1 < a.1)).length = 0
    rw [this]; rfl
  | a :: l, hp, i + 1, h => by
    obtain ⟨h1, h2⟩ := List.pairwise_cons.1 hp
    have hi : i < l.length := by simpa using h
    have := ahead_sorted h2 hi
    show ((a :: l).filter fun y => decide (y.1 < (l[i]).1)).length = i + 1
    rw [List.filter_cons_of_pos (by simpa using h1 _ (List.getElem_mem hi)), List.length_cons, this]
theorem range_map_getD {α β : Type} (g : α → β) (z : α) (l : List α) : (List.range l.length).map (fun i => g (l.getD i z)) = l.map g := by
  refine List.ext_getElem (by simp) fun i h1 h2 => ?_
  have h3 : i < l.length := by simpa using h1
  rw [List.getElem_map, List.getElem_range, List.getElem_map, getD_el h3]
theorem sortE_perm (l : List Ent) : (sortE l).Perm l := List.mergeSort_perm _ _
theorem sortE_lt {l : List Ent} (hd : l.Pairwise fun x y => x.1 ≠ y.1) : (sortE l).Pairwise fun x y => x.1 < y.1 := by
  have h1 : (sortE l).Pairwise fun x y => x.1 ≠ y.1 := ((sortE_perm l).pairwise_iff (fun {_ _} h => Ne.symm h)).2 hd
  have h2 : (sortE l).Pairwise fun x y => (!Go.Proofs.ltOf cfE y x) = true := by
    refine List.pairwise_mergeSort ?_ ?_ _
    · intro a b c h1 h2
      simp only [ltE, Bool.not_eq_true', decide_eq_false_iff_not] at h1 h2 ⊢
      omega
    · intro a b
      simp only [ltE, Bool.or_eq_true, Bool.not_eq_true', decide_eq_false_iff_not]
      omega
  refine (h1.and h2).imp fun {a b} h => ?_
  obtain ⟨h3, h4⟩ := h
  simp only [ltE, Bool.not_eq_true', decide_eq_false_iff_not] at h4
  omega
def rowE (q : Nat) (o : Int) (es : List Ent) (x : Ent) : Pt := (q + 2 + 12 * aheadE es x, entW x o)
theorem rowQ_eq (q : Nat) (o : Int) (es : List Ent) : rowQ q o es es.length = es.map (rowE q o es) := range_map_getD (rowE q o es) ent0 es
theorem rowP_eq {q : Nat} {o : Int} {es : List Ent} (hd : es.Pairwise fun x y => x.1 ≠ y.1) : rowP q o (sortE es) es.length = (sortE es).map (rowE q o es) := by
  rw [← range_map_getD (rowE q o es) ent0, sortE_len]
  unfold rowP
  refine List.map_congr_left fun i hi => ?_
  have hi : i < (sortE es).length := by rw [sortE_len]; exact List.mem_range.1 hi
  have h1 := ahead_sorted (sortE_lt hd) hi
  have h2 : aheadE es ((sortE es).getD i ent0) = i := by
    rw [getD_el hi]
    unfold aheadE
    rw [← ((sortE_perm es).filter _).length_eq]
    exact h1
  unfold rowE
  rw [h2]
theorem row_perm {q : Nat} {o : Int} {es : List Ent} (hd : es.Pairwise fun x y => x.1 ≠ y.1) : (rowP q o (sortE es) es.length).Perm (rowQ q o es es.length) := by
  rw [rowP_eq hd, rowQ_eq]
  exact (sortE_perm es).map _
/-- what the document writes of a directory and all within it -/
def dirQ (L : List Shp) (l : List Spt) (o : Int) : (f : Nat) → DirT f → Int → Int → List Pt
  | 0, _, _, _ => []
  | f + 1, d, no, i => subP (dirQ L l o f) (L.getD i.toNat shp0) d.2.1 no d.2.1.length ++ putP f l o no (L.getD i.toNat shp0) d
theorem dirQ_succ (L : List Shp) (l : List Spt) (o : Int) (f : Nat) (d : DirT (f + 1)) (no i : Int) : dirQ L l o (f + 1) d no i =
    subP (dirQ L l o f) (L.getD i.toNat shp0) d.2.1 no d.2.1.length ++ putP f l o no (L.getD i.toNat shp0) d := rfl
theorem dir_perm {L : List Shp} {l : List Spt} {n : Nat} {o : Int} : ∀ (f : Nat) (d : DirT f) (no i : Int), okW L l n o f d no i → (dirW L l o f d no i).Perm (dirQ L l o f d no i)
  | 0, _, _, _, _ => List.Perm.refl _
  | f + 1, d, no, i, h => by
    obtain ⟨_, hs, _, _, _, _, _, hk, _⟩ := okW_succ h
    rw [dirW_succ, dirQ_succ]
    unfold putP headP
    have h1 : (subP (dirW L l o f) (L.getD i.toNat shp0) d.2.1 no d.2.1.length).Perm (subP (dirQ L l o f) (L.getD i.toNat shp0) d.2.1 no d.2.1.length) :=
      flatMap_perm _ fun j hj => dir_perm f _ _ _ (hs j (List.mem_range.1 hj)).2
    have h2 := (row_perm (q := (atS l 2 no 0).toNat) (o := o) hk).cons ((atS l 2 no 0).toNat, putS ((entsD f l o no (L.getD i.toNat shp0) d).length : Nat) 2 o)
    have h3 : (d.1.flatMap (patV l o no) ++ subP (dirW L l o f) (L.getD i.toNat shp0) d.2.1 no d.2.1.length).Perm (subP (dirQ L l o f) (L.getD i.toNat shp0) d.2.1 no d.2.1.length ++ d.1.flatMap (patV l o no)) :=
      List.perm_append_comm.trans (h1.append (List.Perm.refl _))
    rw [← List.append_assoc, ← List.append_assoc]
    exact (h3.append (List.Perm.refl _)).append h2
theorem flatMap_two {α β : Type} (f g : α → List β) : ∀ l : List α, (l.flatMap fun x => f x ++ g x).Perm (l.flatMap f ++ l.flatMap g)
  | [] => List.Perm.refl _
  | x :: l => by
    rw [List.flatMap_cons, List.flatMap_cons, List.flatMap_cons]
    refine ((List.Perm.refl (f x ++ g x)).append (flatMap_two f g l)).trans ?_
    rw [List.append_assoc, List.append_assoc]
    refine (List.Perm.refl (f x)).append ?_
    rw [← List.append_assoc, ← List.append_assoc]
    exact List.perm_append_comm.append (List.Perm.refl _)
def linkP2 (l : List Spt) (o : Int) (f : Nat) (ds : List (DirT f)) (k : Nat) : Pt := ((lnkT l f ds k).toNat, putS (atS l 2 (noT f ds k) 0) 4 o)
def nextQ (l : List Spt) (o : Int) (f : Nat) (ds : List (DirT f)) (k : Nat) : List Pt := if k + 1 < ds.length then [linkP2 l o f ds (k + 1)] else []
def chQ (L : List Shp) (l : List Spt) (o : Int) (f : Nat) (ds : List (DirT f)) (n : Nat) : List Pt :=
  (List.range n).flatMap fun k => dirQ L l o f (ds.getD k (dirZ f)) (noT f ds k) (nxtS L k) ++ nextQ l o f ds k
theorem range_next {β : Type} (B : Nat → β) (m : Nat) : ((List.range (m + 1)).flatMap fun k => if k + 1 < m + 1 then [B (k + 1)] else []) = (List.range m).map fun k => B (k + 1) := by
  rw [List.range_succ, List.flatMap_append]
  have h1 : ([m].flatMap fun k => if k + 1 < m + 1 then [B (k + 1)] else []) = [] := by simp
  rw [h1, List.append_nil]
  have h2 : ∀ q, q ≤ m → ((List.range q).flatMap fun k => if k + 1 < m + 1 then [B (k + 1)] else []) = (List.range q).map fun k => B (k + 1) := by
    intro q
    induction q with
    | zero => intro _; rfl
    | succ q ih =>
      intro hq
      rw [List.range_succ, List.flatMap_append, List.map_append, ih (by omega)]
      simp
      omega
  exact h2 m (Nat.le_refl _)
theorem ch_perm {L : List Shp} {l : List Spt} {n : Nat} {o : Int} {f : Nat} {ds : List (DirT f)} (h0 : ds.length ≠ 0) (h : ∀ k, k < ds.length → okW L l n o f (ds.getD k (dirZ f)) (noT f ds k) (nxtS L k)) :
    (chW L l o f ds ds.length).Perm (linkP2 l o f ds 0 :: chQ L l o f ds ds.length) := by
  obtain ⟨m, hm⟩ : ∃ m, ds.length = m + 1 := ⟨ds.length - 1, by omega⟩
  have e1 : chW L l o f ds ds.length = (List.range ds.length).flatMap fun k => dirW L l o f (ds.getD k (dirZ f)) (noT f ds k) (nxtS L k) ++ [linkP2 l o f ds k] := rfl
  have e2 : ((List.range ds.length).flatMap fun k => [linkP2 l o f ds k]) = (List.range ds.length).map (linkP2 l o f ds) := by
    induction (List.range ds.length) with
    | nil => rfl
    | cons a r ih => rw [List.flatMap_cons, ih]; rfl
  have e3 : ((List.range ds.length).flatMap (nextQ l o f ds)) = (List.range m).map fun k => linkP2 l o f ds (k + 1) := by
    have := range_next (linkP2 l o f ds) m
    unfold nextQ
    rw [hm]
    exact this
  have e4 : (List.range ds.length).map (linkP2 l o f ds) = linkP2 l o f ds 0 :: (List.range m).map fun k => linkP2 l o f ds (k + 1) := by
    rw [hm, List.range_succ_eq_map, List.map_cons, List.map_map]; rfl
  rw [e1]
  refine (flatMap_two _ _ _).trans ?_
  rw [e2, e4]
  refine List.perm_middle.trans (List.Perm.cons _ ?_)
  unfold chQ
  refine List.Perm.trans ?_ (flatMap_two _ _ _).symm
  have e5 : ((List.range ds.length).flatMap fun k => nextQ l o f ds k) = (List.range m).map fun k => linkP2 l o f ds (k + 1) := e3
  rw [e5]
  exact (flatMap_perm _ fun k hk => dir_perm f _ _ _ (h k (List.mem_range.1 hk))).append (List.Perm.refl _)
def signB (o : Int) : List Int := if o = 2 then [77, 77] else [73, 73]
/-- what the document writes of a tree -/
def treeQ (f : Nat) (o : Int) (ds : List (DirT f)) (L : List Shp) : List Pt := (0, signB o) :: (2, putS 42 2 o) :: (4, putS 8 4 o) :: chQ L (layT f ds) o f ds ds.length
end Go.Proofs.YtilennmeiaehnaaGreat

namespace Go.Proofs.YtilennmeiaehnaaGreat
open Go.RowKit Tt
set_option linter.unusedVariables false
set_option linter.unusedSimpArgs false

/-- what lies while the directories within are written -/
structure WrIn (n : Nat) (w wr : World) (dv : Array Value) (bv sv : Value) (P : List Int) (ks : List Int) : Prop where
  bel : Below w.heap.size w wr
  bA : Blk wr w.heap.size 42 dv
  b : Bd w.heap.size wr bv n P
  l : wr.ownsRow w.heap.size 3 1 sv ks.length (ints .i64 ks)
section
variable {n : Nat} {w wr w2 : World} {dv : Array Value} {bv sv : Value} {P : List Int} {ks : List Int}
theorem WrIn.later (h : WrIn n w wr dv bv sv P ks) (hb : Below wr.heap.size wr w2) : WrIn n w w2 dv bv sv P ks :=
  ⟨h.bel.trans (hb.mono h.bel.size), h.bA.late hb, h.b.later hb, own_later h.l hb⟩
theorem WrIn.add {sv2 : Value} {ks2 : List Int} (h : WrIn n w wr dv bv sv P ks) (ho : w2.ownsRow w.heap.size 3 1 sv2 ks2.length (ints .i64 ks2)) (hg : wr.grownBy w2 sv.ownBlock) : WrIn n w w2 dv bv sv2 P ks2 :=
  ⟨below_grown h.bel hg h.bel.size h.l, h.bA.grown hg (own_ne_blk0 h.l h.bA (by decide)), h.b.grown hg h.l (by decide), ho⟩
theorem WrIn.put {a : Option Addr} {c : Nat} {P2 : List Int} (h : WrIn n w wr dv bv sv P ks) (hb : Below wr.heap.size wr w2) (ho : w2.ownsRow wr.heap.size 5 1 (.slice a n c) n (ints .u8 P2)) : WrIn n w w2 dv (.slice a n c) sv P2 ks :=
  have h2 := h.later hb
  ⟨h2.bel, h2.bA, Bd.of_own ho, h2.l⟩
end
end Go.Proofs.YtilennmeiaehnaaGreat
