/- Chapter 21: a tree's bytes: plain words. | Chapter 20: how a tree is laid: its items, one behind the other; no two have the same name. Plain. | Numbers and values as bytes, and back: plain. -/
import Derived.Lib.BufferWrite
import Derived.Test.YtceclmpmpldmlaaGreatCs23
import Derived.Test.YtceclmpmpldmlaaGreatCs25
import Derived.Test.YtceclmpmpldmlaaGreatCs14
namespace Go.Proofs.YtceclmpmpldmlaaGreat
open Go.RowKit Tt
set_option linter.unusedVariables false
set_option linter.unusedSimpArgs false

/-- a directory's entries -/
def entD : (f : Nat) → DirT f → Nat
  | 0, _ => 0
  | f + 1, d => entN d.1.length d.2.1.length d.2.2.length
/-- the number of a directory of the chain -/
def noT (f : Nat) (ds : List (DirT f)) (k : Nat) : Int := (flatT f (ds.take k)).length
/-- where the place of a directory of the chain is told -/
def lnkT (l : List Spt) (f : Nat) (ds : List (DirT f)) : Nat → Int
  | 0 => 4
  | k + 1 => atS l 2 (noT f ds k) 0 + 2 + 12 * (entD f (ds.getD k (dirZ f)) : Nat)
def chW (L : List Shp) (l : List Spt) (o : Int) (f : Nat) (ds : List (DirT f)) (n : Nat) : List Pt :=
  (List.range n).flatMap fun k => dirW L l o f (ds.getD k (dirZ f)) (noT f ds k) (nxtS L k) ++ [((lnkT l f ds k).toNat, putS (atS l 2 (noT f ds k) 0) 4 o)]
def signP (o : Int) : List Pt := (0, [77, 77]) :: if o = 1 then [(0, [73, 73])] else []
def treeP (f : Nat) (o : Int) (ds : List (DirT f)) (L : List Shp) : List Pt := signP o ++ (2, putS 42 2 o) :: chW L (layT f ds) o f ds ds.length
def treeW (f : Nat) (o : Int) (ds : List (DirT f)) (L : List Shp) : List Int := apP (treeP f o ds L) (List.replicate (longT f ds).toNat 0)
/-- all of a tree has its place -/
structure OKT (f : Nat) (o : Int) (ds : List (DirT f)) (L : List Shp) : Prop where
  shp : shapesB L = true
  ord : o = 1 ∨ o = 2
  n8 : 8 ≤ longT f ds
  n1 : longT f ds ≤ 1000000000000
  fit : fitT f ds = true
  nx : ∀ k, k < ds.length → 0 ≤ nxtS L k
  dir : ∀ k, k < ds.length → okW L (layT f ds) (longT f ds).toNat o f (ds.getD k (dirZ f)) (noT f ds k) (nxtS L k)
  lnk : ∀ k, k < ds.length → 0 ≤ lnkT (layT f ds) f ds k ∧ (lnkT (layT f ds) f ds k).toNat + 4 ≤ (longT f ds).toNat
  pk : ∀ k, k < ds.length → putOk (atS (layT f ds) 2 (noT f ds k) 0) 4 o = true
def wrtS (f : Nat) (o : Int) (ds : List (DirT f)) (L : List Shp) : List Int := if checkS f o ds L = 0 then treeW f o ds L else []
theorem treeW_eq (f : Nat) (o : Int) (ds : List (DirT f)) (L : List Shp) : treeW f o ds L = apP (chW L (layT f ds) o f ds ds.length) (splice (apP (signP o) (List.replicate (longT f ds).toNat 0)) 2 (putS 42 2 o)) := by
  unfold treeW treeP; rw [apP_append]; rfl
theorem noT_step (f : Nat) (ds : List (DirT f)) {k : Nat} (h : k < ds.length) : noT f ds (k + 1) = noT f ds k + (flatS f (ds.getD k (dirZ f))).length := by
  unfold noT flatT; rw [List.take_add_one, List.getElem?_eq_getElem h, Option.toList_some, List.flatMap_append, List.length_append, getD_el h]
  simp
theorem noT_le (f : Nat) (ds : List (DirT f)) (k : Nat) : 0 ≤ noT f ds k ∧ noT f ds k ≤ (flatT f ds).length := by
  have h : (flatT f ds).length = (flatT f (ds.take k)).length + (flatT f (ds.drop k)).length := by
    conv => lhs; rw [← List.take_append_drop k ds]
    unfold flatT; rw [List.flatMap_append, List.length_append]
  unfold noT; omega
theorem chW_step (L : List Shp) (l : List Spt) (o : Int) (f : Nat) (ds : List (DirT f)) (k : Nat) : chW L l o f ds (k + 1) = chW L l o f ds k ++ (dirW L l o f (ds.getD k (dirZ f)) (noT f ds k) (nxtS L k) ++ [((lnkT l f ds k).toNat, putS (atS l 2 (noT f ds k) 0) 4 o)]) := by
  unfold chW; rw [List.range_succ, List.flatMap_append]; simp
theorem dirR_ent {w : World} : ∀ {f : Nat} {d : DirT f} {ta : Option Addr} {tn tc : Nat} {sa : Option Addr} {sn sc : Nat} {ba : Option Addr} {bn bc : Nat}, DirR w f d (.slice ta tn tc, .slice sa sn sc, .slice ba bn bc) → smallD f d → entD f d = entN tn sn bn ∧ tn ≤ 500 ∧ sn ≤ 500 ∧ bn ≤ 1000000
  | 0, _, _, _, _, _, _, _, _, _, _, h, _ => h.elim
  | f + 1, d, ta, tn, tc, sa, sn, sc, ba, bn, bc, h, hs => by
    obtain ⟨ta', tn', tc', zs, sa', sn', sc', ds, ba', bn', bc', hv, htg, hdt, hsl, hdl, _, hbl⟩ := h; obtain ⟨h1, h2, h3, _⟩ := hs; simp only [Prod.mk.injEq, Value.slice.injEq] at hv; obtain ⟨⟨_, rfl, _⟩, ⟨_, rfl, _⟩, _, rfl, _⟩ := hv; have htn : d.1.length = tn := by rw [hdt, List.length_map]; exact htg.len
    have hsn : d.2.1.length = sn := by rw [← hdl]; exact hsl.flen sbC_len (by decide)
    have hbn : d.2.2.length = bn := hbl.ilen; refine ⟨?_, by omega, by omega, by omega⟩
    show entN d.1.length d.2.1.length d.2.2.length = _
    rw [htn, hsn, hbn]
/-- a string is copied into the page -/
theorem page_str {K : Wc} {w : World} {no : Int} {P : List Int} (h : WrS K w no P) (s : ByteArray) (by_ : List Int) (hb : Go.Lib.byteCells s.data.toList = ints .u8 by_) (hl : by_.length = s.size) (hn : s.size ≤ K.n) (sT ty : TypeId) :
    ∃ w', (Builtin.copy_ #[24, sT] ty #[.slice (some ⟨K.gb, 0, none⟩) K.n K.n, .string s]).run Tryz.prog w = .ok (goInt s.size) w' ∧ WrS K w' no (splice P 0 by_) ∧ Mv K.gw K.gb nilV nilV w w' := by
  have hsz : (Tryz.prog.info? 5).map (·.size) = some 1 := by kernel_rfl
  have hr := Go.Lib.run_copy_row_string (P := Tryz.prog) w 24 sT ty 5 K.gb 0 K.n K.n s (ints .u8 P).toArray 5 Tryz.underlying24 hsz h.row hn (by simp [ints_len, h.len]; exact hn)
  have e : (((ints .u8 P).toArray.toList.take 0 ++ Go.Lib.byteCells s.data.toList ++ (ints .u8 P).toArray.toList.drop (0 + s.size)).toArray) = (ints .u8 (splice P 0 by_)).toArray := by
    rw [hb, ← ints_splice]; unfold splice
    simp [ints_len, hl]
  rw [e] at hr; refine ⟨_, hr, ?_, ⟨rfl, rfl, rfl, by simp [World.setRow], fun k hk h2 h3 _ => setRow_other w K.gb k _ h3, fun _ h => .inl h⟩⟩; have ho : ∀ k, k ≠ K.gb → (w.setRow K.gb (ints .u8 (splice P 0 by_)).toArray).heap[k]? = w.heap[k]? := fun k hk => setRow_other w K.gb k _ hk; refine ⟨(ho _ h.ne).trans h.blk, setRow_heap w K.gb (ints .u8 P).toArray (ints .u8 (splice P 0 by_)).toArray 5 (0, 0) h.row, by rw [splice_len (by rw [hl, h.len]; omega)]; exact h.len, ?_, h.spne, h.ne, h.splt, by simp [World.setRow]; exact h.sble⟩; exact sl_eqs h.sp (by simp [World.setRow]) (fun x e hx => ho _ (h.spne x e).2)
end Go.Proofs.YtceclmpmpldmlaaGreat

namespace Go.Proofs.YtceclmpmpldmlaaGreat
open Go.RowKit Tt
set_option linter.unusedVariables false
set_option linter.unusedSimpArgs false

def outV (x : Tgs) : Int := outS x.2.1 x.2.2.1
theorem outV_nn (x : Tgs) : 0 ≤ outV x := by
  unfold outV outS; have := longS_le x.2.1 x.2.2.1
  split <;> omega
def itmV (no : Int) (ts : List Tgs) : List Itm := (ts.filter fun x => decide (0 < outV x)).map fun x => (3, no, x.1, outV x)
def itmB (no : Int) (b : List Int) : List Itm := if 0 < b.length then [(4, no, 0, (b.length : Int))] else []
def itmSs {f : Nat} (rec : DirT f → Int → List Itm) : List (Int × DirT f) → Int → List Itm
  | [], _ => []
  | s :: ss, no => rec s.2 no ++ itmSs rec ss (no + (flatS f s.2).length)
/-- what is laid of a directory and all within it -/
def itmD : (f : Nat) → DirT f → Int → List Itm
  | 0, _, _ => []
  | f + 1, d, no => (2, no, 0, 6 + 12 * ((entN d.1.length d.2.1.length d.2.2.length : Nat) : Int)) :: (itmV no d.1 ++ (itmSs (itmD f) d.2.1 (no + 1) ++ itmB no d.2.2))
theorem itmD_succ (f : Nat) (d : DirT (f + 1)) (no : Int) : itmD (f + 1) d no =
    (2, no, 0, 6 + 12 * ((entN d.1.length d.2.1.length d.2.2.length : Nat) : Int)) :: (itmV no d.1 ++ (itmSs (itmD f) d.2.1 (no + 1) ++ itmB no d.2.2)) := rfl
def itmT (f : Nat) (ds : List (DirT f)) : List Itm := (1, -1, 0, 8) :: itmSs (itmD f) (prs f ds) 0
theorem vals_push (no : Int) : ∀ (ts : List Tgs) (l : List Spt), valsS no ts l = (itmV no ts).foldl pushI l
  | [], l => rfl
  | x :: ts, l => by
    have ih := vals_push no ts; unfold valsS at ih ⊢; unfold itmV at ih ⊢; rw [List.foldl_cons, List.filter_cons]
    by_cases h : 0 < outV x
    · rw [if_pos (by simpa [outV] using h), if_pos (by simpa using h), List.map_cons, List.foldl_cons]
      exact ih _
    · rw [if_neg (by simpa [outV] using h), if_neg (by simpa using h)]
      exact ih _
theorem subs_push (f : Nat) (ih : ∀ (d : DirT f) (no : Int) (l : List Spt), layS f d no l = (itmD f d no).foldl pushI l) : ∀ (ss : List (Int × DirT f)) (no : Int) (l : List Spt), (laySubs f ss (l, no)).1 = (itmSs (itmD f) ss no).foldl pushI l
  | [], _, _ => rfl
  | s :: ss, no, l => by
    rw [laySubs_cons]
    show (laySubs f ss (layS f s.2 no l, no + (flatS f s.2).length)).1 = _
    rw [subs_push f ih ss, ih, ← List.foldl_append]
    rfl
theorem lay_push : ∀ (f : Nat) (d : DirT f) (no : Int) (l : List Spt), layS f d no l = (itmD f d no).foldl pushI l
  | 0, _, _, _ => rfl
  | f + 1, d, no, l => by
    rw [layS_succ, itmD_succ, List.foldl_cons, List.foldl_append, List.foldl_append, ← vals_push]; have hs := subs_push f (lay_push f) d.2.1 (no + 1) (valsS no d.1 (addS l 2 no 0 (6 + 12 * (entN d.1.length d.2.1.length d.2.2.length : Nat)))); rw [hs]; unfold itmB
    split <;> rfl
theorem layT_eq (f : Nat) (ds : List (DirT f)) : layT f ds = placed 0 (itmT f ds) ∧ endS (layT f ds) = endP 0 (itmT f ds) := by
  have h := push_all (itmT f ds) []
  have e : layT f ds = (itmT f ds).foldl pushI [] := by
    unfold layT; rw [subs_push f (lay_push f)]
    rfl
  rw [e, h.2, h.1]; exact ⟨rfl, rfl⟩
theorem itmSs_mem {f : Nat} {rec : DirT f → Int → List Itm} : ∀ {ss : List (Int × DirT f)} {no : Int} {x : Itm}, x ∈ itmSs rec ss no → ∃ j, j < ss.length ∧ x ∈ rec (ss.getD j (0, dirZ f)).2 (no + (flats f (ss.take j)).length)
  | [], _, _, h => by cases h
  | s :: ss, no, x, h => by
    rcases List.mem_append.1 h with h | h
    · exact ⟨0, by simp, by simpa [flats] using h⟩
    · obtain ⟨j, hj, hx⟩ := itmSs_mem h
      refine ⟨j + 1, by simpa using hj, ?_⟩
      have e : no + (flatS f s.2).length + (flats f (ss.take j)).length = no + (flats f ((s :: ss).take (j + 1))).length := by
        rw [List.take_succ_cons]; unfold flats; rw [List.flatMap_cons, List.length_append]
        omega
      rw [e] at hx
      simpa using hx
theorem itmSs_get {f : Nat} {rec : DirT f → Int → List Itm} : ∀ {ss : List (Int × DirT f)} {no : Int} {j : Nat}, j < ss.length → ∀ x ∈ rec (ss.getD j (0, dirZ f)).2 (no + (flats f (ss.take j)).length), x ∈ itmSs rec ss no
  | [], _, _, h, _, _ => by simp at h
  | s :: ss, no, 0, _, x, hx => List.mem_append.2 (.inl (by simpa [flats] using hx))
  | s :: ss, no, j + 1, h, x, hx => by
    refine List.mem_append.2 (.inr (itmSs_get (j := j) (by simpa using h) x ?_))
    have e : no + (flatS f s.2).length + (flats f (ss.take j)).length = no + (flats f ((s :: ss).take (j + 1))).length := by
      rw [List.take_succ_cons]; unfold flats; rw [List.flatMap_cons, List.length_append]
      omega
    rw [e]
    simpa using hx
theorem flats_get_le (f : Nat) (ss : List (Int × DirT f)) {j : Nat} (h : j < ss.length) : (flats f (ss.take j)).length + (flatS f (ss.getD j (0, dirZ f)).2).length ≤ (flats f ss).length := by
  have := flats_take_le f ss (j + 1); rw [flats_step f ss h] at this; rw [getD_el h]; exact this
/-- all items of a directory bear its number, or one of those behind -/
theorem itmD_no : ∀ (f : Nat) (d : DirT f) (no : Int) (x : Itm), x ∈ itmD f d no → no ≤ x.2.1 ∧ x.2.1 < no + (flatS f d).length ∧ 0 ≤ x.2.2.2 ∧ 2 ≤ x.1 ∧ x.1 ≤ 4
  | 0, _, _, _, h => by cases h
  | f + 1, d, no, x, h => by
    have e : (flatS (f + 1) d).length = (flats f d.2.1).length + 1 := by rw [flatS_succ]; rfl
    rw [itmD_succ] at h; rw [e]
    rcases List.mem_cons.1 h with rfl | h
    · simp; omega
    rcases List.mem_append.1 h with h | h
    · obtain ⟨t, ht, rfl⟩ := List.mem_map.1 h
      have := outV_nn t
      simp; omega
    rcases List.mem_append.1 h with h | h
    · obtain ⟨j, hj, hx⟩ := itmSs_mem h
      have h1 := itmD_no f _ _ _ hx; have h2 := flats_get_le f d.2.1 hj
      omega
    · unfold itmB at h
      split at h
      · obtain rfl : x = _ := by simpa using h
        simp; omega
      · cases h
/-- the tags of each directory are others -/
def DisD : (f : Nat) → DirT f → Prop
  | 0, _ => True
  | f + 1, d => (d.1.Pairwise fun x y => x.1 ≠ y.1) ∧ ∀ s ∈ d.2.1, DisD f s.2
theorem nodup_map_of {α β : Type} {g : α → β} {l : List α} (h : l.Pairwise fun x y => g x ≠ g y) : (l.map g).Nodup := by
  unfold List.Nodup; rw [List.pairwise_map]; exact h
theorem itmSs_keys {f : Nat} (ih : ∀ (d : DirT f) (no : Int), DisD f d → ((itmD f d no).map keyI).Nodup) : ∀ (ss : List (Int × DirT f)) (no : Int), (∀ s ∈ ss, DisD f s.2) → ((itmSs (itmD f) ss no).map keyI).Nodup
  | [], _, _ => List.nodup_nil
  | s :: ss, no, h => by
    show ((itmD f s.2 no ++ itmSs (itmD f) ss (no + (flatS f s.2).length)).map keyI).Nodup
    rw [List.map_append, List.nodup_append]; refine ⟨ih s.2 no (h s (List.mem_cons_self ..)), itmSs_keys ih ss _ (fun x hx => h x (List.mem_cons_of_mem _ hx)), ?_⟩; intro a ha b hb e; obtain ⟨x, hx, rfl⟩ := List.mem_map.1 ha; obtain ⟨y, hy, rfl⟩ := List.mem_map.1 hb; obtain ⟨j, hj, hy⟩ := itmSs_mem hy; have h1 := itmD_no _ _ _ _ hx; have h2 := itmD_no _ _ _ _ hy; have h3 : x.2.1 = y.2.1 := congrArg (fun k => k.2.1) e
    omega
theorem itmD_keys : ∀ (f : Nat) (d : DirT f) (no : Int), DisD f d → ((itmD f d no).map keyI).Nodup
  | 0, _, _, _ => List.nodup_nil
  | f + 1, d, no, h => by
    obtain ⟨h1, h2⟩ := h
    have hV : ∀ x ∈ itmV no d.1, x.1 = 3 ∧ x.2.1 = no := fun x hx => by
      obtain ⟨t, ht, rfl⟩ := List.mem_map.1 hx; exact ⟨rfl, rfl⟩
    have hB : ∀ x ∈ itmB no d.2.2, x.1 = 4 ∧ x.2.1 = no := fun x hx => by
      unfold itmB at hx
      split at hx
      · obtain rfl : x = _ := by simpa using hx
        exact ⟨rfl, rfl⟩
      · cases hx
    have hS : ∀ x ∈ itmSs (itmD f) d.2.1 (no + 1), no < x.2.1 := fun x hx => by
      obtain ⟨j, hj, hx⟩ := itmSs_mem hx; have := itmD_no _ _ _ _ hx
      omega
    rw [itmD_succ, List.map_cons, List.nodup_cons, List.map_append, List.nodup_append, List.map_append, List.nodup_append]; refine ⟨?_, ?_, ⟨itmSs_keys (itmD_keys f) _ _ h2, ?_, ?_⟩, ?_⟩
    · intro hm
      rw [← List.map_append, ← List.map_append] at hm; obtain ⟨x, hx, e⟩ := List.mem_map.1 hm; have e1 : x.1 = 2 := congrArg (fun k => k.1) e; have e2 : x.2.1 = no := congrArg (fun k => k.2.1) e
      rcases List.mem_append.1 hx with hx | hx
      · have := hV x hx; omega
      rcases List.mem_append.1 hx with hx | hx
      · have := hS x hx; omega
      · have := hB x hx; omega
    · unfold itmV
      rw [List.map_map]; refine nodup_map_of ((List.Pairwise.filter _ h1).imp fun {a b} hab e => hab ?_); exact congrArg (fun k => k.2.2) e
    · unfold itmB
      split <;> simp
    · intro a ha b hb e
      obtain ⟨x, hx, rfl⟩ := List.mem_map.1 ha; obtain ⟨y, hy, rfl⟩ := List.mem_map.1 hb; have e2 : x.2.1 = y.2.1 := congrArg (fun k => k.2.1) e; have := hS x hx; have := hB y hy
      omega
    · intro a ha b hb e
      obtain ⟨x, hx, rfl⟩ := List.mem_map.1 ha; have h3 := hV x hx; rw [← List.map_append] at hb; obtain ⟨y, hy, rfl⟩ := List.mem_map.1 hb; have e1 : x.1 = y.1 := congrArg (fun k => k.1) e; have e2 : x.2.1 = y.2.1 := congrArg (fun k => k.2.1) e
      rcases List.mem_append.1 hy with hy | hy
      · have := hS y hy; omega
      · have := hB y hy; omega
theorem itmT_nn (f : Nat) (ds : List (DirT f)) : ∀ x ∈ itmT f ds, 0 ≤ x.2.2.2 := fun x hx => by
  rcases List.mem_cons.1 hx with rfl | hx
  · decide
  · obtain ⟨j, _, hx⟩ := itmSs_mem hx
    exact (itmD_no _ _ _ _ hx).2.2.1
theorem itmT_keys (f : Nat) (ds : List (DirT f)) (h : ∀ d ∈ ds, DisD f d) : ((itmT f ds).map keyI).Nodup := by
  unfold itmT; rw [List.map_cons, List.nodup_cons]; refine ⟨fun hm => ?_, itmSs_keys (itmD_keys f) _ _ fun s hs => ?_⟩
  · obtain ⟨x, hx, e⟩ := List.mem_map.1 hm
    obtain ⟨j, _, hx⟩ := itmSs_mem hx; have h1 := itmD_no _ _ _ _ hx; have e1 : x.1 = 1 := congrArg (fun k => k.1) e
    omega
  · obtain ⟨d, hd, rfl⟩ := List.mem_map.1 hs
    exact h d hd
theorem layT_keys (f : Nat) (ds : List (DirT f)) (h : ∀ d ∈ ds, DisD f d) : ((layT f ds).map keyS).Nodup := by
  rw [(layT_eq f ds).1, placed_keys]; exact itmT_keys f ds h
theorem layT_ahead (f : Nat) (ds : List (DirT f)) : (layT f ds).Pairwise Ahead := by
  rw [(layT_eq f ds).1]; exact placed_ahead _ _ (Int.le_refl _) (itmT_nn f ds)
/-- what is laid has its spot there -/
theorem layT_spot {f : Nat} {ds : List (DirT f)} (h : ∀ d ∈ ds, DisD f d) {x : Itm} (hx : x ∈ itmT f ds) : ∃ s ∈ layT f ds, keyS s = keyI x ∧ s.2.2.2.2 = x.2.2.2 ∧ s.2.2.2.1 = atS (layT f ds) x.1 x.2.1 x.2.2.1 ∧ (layT f ds).any (atP x.1 x.2.1 x.2.2.1) = true ∧ 0 ≤ s.2.2.2.1 ∧ s.2.2.2.1 % 2 = 0 ∧ s.2.2.2.1 + x.2.2.2 ≤ endS (layT f ds) := by
  have he := layT_eq f ds; obtain ⟨s, h1, h2, h3⟩ := placed_mem (itmT f ds) 0 x hx; have h4 := placed_in (itmT f ds) 0 (Int.le_refl _) (itmT_nn f ds) s h1; rw [← he.1] at h1; rw [← he.2] at h4; have h5 := atS_key (layT_keys f ds h) h1; have e1 : s.1 = x.1 := congrArg (fun k => k.1) h2; have e2 : s.2.1 = x.2.1 := congrArg (fun k => k.2.1) h2; have e3 : s.2.2.1 = x.2.2.1 := congrArg (fun k => k.2.2) h2; rw [e1, e2, e3] at h5; exact ⟨s, h1, h2, h3, h5.2.symm, h5.1, h4.1, h4.2.1, by rw [← h3]; exact h4.2.2.2⟩
theorem fits_of {f : Nat} {ds : List (DirT f)} (h : ∀ d ∈ ds, DisD f d) {a b c : Int} {m : Int} (hx : ((a, b, c, m) : Itm) ∈ itmT f ds) {n k : Nat} (hn : endS (layT f ds) ≤ n) (hk : (k : Int) ≤ m) : Fits (layT f ds) n a b c k := by
  obtain ⟨s, h1, h2, h3, h4, h5, h6, h7, h8⟩ := layT_spot h hx; simp only at h4 h5 h8; refine ⟨h5, by rw [← h4]; exact h6, ?_⟩; rw [← h4]
  omega
end Go.Proofs.YtceclmpmpldmlaaGreat

namespace Go.Proofs.YtceclmpmpldmlaaGreat
open Go.RowKit Tt
set_option linter.unusedVariables false
set_option linter.unusedSimpArgs false

theorem be_leb : ∀ (k : Nat) (n : Int), be (leb k n).reverse = n % 256 ^ k
  | 0, n => by simp [leb, be]
  | k + 1, n => by
    rw [leb, List.reverse_cons, be_snoc, be_leb k]; have h := Int.emod_emod_of_dvd n (show (256 : Int) ∣ 256 ^ (k + 1) from ⟨256 ^ k, by rw [Int.pow_succ]; omega⟩)
    have h1 : n % (256 ^ (k + 1)) = n / 256 % 256 ^ k * 256 + n % 256 := by
      have e1 : (256 : Int) ^ (k + 1) = 256 * 256 ^ k := by rw [Int.pow_succ]; omega
      have e2 := Int.mul_ediv_add_emod n 256; have e3 := Int.mul_ediv_add_emod (n / 256) (256 ^ k); have hp : (0 : Int) < 256 ^ k := Int.pow_pos (by decide); have b1 := Int.emod_nonneg (n / 256) (Int.ne_of_gt hp); have b2 := Int.emod_lt_of_pos (n / 256) hp; have b3 := Int.emod_nonneg n (show (256 : Int) ≠ 0 by decide); have b4 := Int.emod_lt_of_pos n (show (0 : Int) < 256 by decide)
      have e4 : n = 256 ^ (k + 1) * (n / 256 / 256 ^ k) + (n / 256 % 256 ^ k * 256 + n % 256) := by
        rw [e1, Int.mul_assoc]
        omega
      have b5 : n / 256 % 256 ^ k * 256 + n % 256 < 256 ^ (k + 1) := by rw [e1]; omega
      have b6 : 0 ≤ n / 256 % 256 ^ k * 256 + n % 256 := by omega
      generalize n / 256 % 256 ^ k * 256 + n % 256 = R at e4 b5 b6 ⊢
      generalize n / 256 / 256 ^ k = Q at e4
      rw [e4, Int.add_comm, Int.add_mul_emod_self_left]; exact Int.emod_eq_of_lt b6 b5
    rw [h1]
theorem pow_topS {s : Int} (h : s = 1 ∨ s = 2 ∨ s = 4) : topS s = 256 ^ s.toNat := by
  rcases h with rfl | rfl | rfl <;> decide
theorem putOk_iff {n s o : Int} (ho : o = 1 ∨ o = 2) : putOk n s o = true ↔ 0 ≤ n ∧ n < topS s := by
  unfold putOk
  simp
  omega
theorem putS_eq {n s o : Int} (h : putOk n s o = true) : putS n s o = if o = 1 then leb s.toNat n else (leb s.toNat n).reverse := by
  unfold putS; rw [if_pos h]
theorem putS_len2 {n s o : Int} (h : putOk n s o = true) : (putS n s o).length = s.toNat := by
  rw [putS_eq h]; split <;> simp [leb_len]
theorem getV_in {z : List Int} {p s o : Int} (hs : s = 1 ∨ s = 2 ∨ s = 4) (ho : o = 1 ∨ o = 2) (h0 : 0 ≤ p) (h1 : p + s ≤ z.length) : getV z p s o = be (getL z p.toNat s.toNat o) := by
  unfold getV; rw [if_pos (getB_in hs ho h0 h1)]
/-- a number that stands there is read -/
theorem getV_put {z : List Int} {p s o n : Int} (hs : s = 1 ∨ s = 2 ∨ s = 4) (ho : o = 1 ∨ o = 2) (h0 : 0 ≤ p) (h1 : p + s ≤ z.length) (hk : putOk n s o = true) (hz : (z.drop p.toNat).take s.toNat = putS n s o) : getV z p s o = n := by
  rw [getV_in hs ho h0 h1]; unfold getL; rw [hz, putS_eq hk]; have hb := (putOk_iff ho).1 hk; rw [pow_topS hs] at hb; have e : be (leb s.toNat n).reverse = n := by rw [be_leb]; exact Int.emod_eq_of_lt hb.1 hb.2
  rcases ho with rfl | rfl
  · rw [if_pos rfl, if_pos rfl]; exact e
  · rw [if_neg (by decide), if_neg (by decide)]; exact e
theorem leb_be : ∀ (l : List Int), Byt l → leb l.length (be l.reverse) = l
  | [], _ => rfl
  | x :: l, h => by
    have hx := h x (List.mem_cons_self ..); have hl := leb_be l fun y hy => h y (List.mem_cons_of_mem _ hy); rw [List.reverse_cons, be_snoc]
    show (be l.reverse * 256 + x) % 256 :: leb l.length ((be l.reverse * 256 + x) / 256) = x :: l
    rw [show (be l.reverse * 256 + x) % 256 = x by omega, show (be l.reverse * 256 + x) / 256 = be l.reverse by omega, hl]
theorem byt_drop_take {z : List Int} (h : Byt z) (p n : Nat) : Byt ((z.drop p).take n) := fun x hx => h x (List.mem_of_mem_drop (List.mem_of_mem_take hx))
theorem getV_bound {z : List Int} (hb : Byt z) {p s o : Int} (hs : s = 1 ∨ s = 2 ∨ s = 4) (ho : o = 1 ∨ o = 2) (h0 : 0 ≤ p) (h1 : p + s ≤ z.length) : 0 ≤ getV z p s o ∧ getV z p s o < topS s := by
  rw [getV_in hs ho h0 h1]; have hl : (getL z p.toNat s.toNat o).length = s.toNat := getL_len (by omega); have := be_bound (getL_byt hb p.toNat s.toNat o) (Nat.le_refl _); rw [List.take_of_length_le (Nat.le_refl _), hl] at this; rw [pow_topS hs]; exact this
/-- a number that is read is what stands there -/
theorem put_getV {z : List Int} (hb : Byt z) {p s o : Int} (hs : s = 1 ∨ s = 2 ∨ s = 4) (ho : o = 1 ∨ o = 2) (h0 : 0 ≤ p) (h1 : p + s ≤ z.length) : putS (getV z p s o) s o = (z.drop p.toNat).take s.toNat := by
  have hk : putOk (getV z p s o) s o = true := (putOk_iff ho).2 (getV_bound hb hs ho h0 h1); rw [putS_eq hk, getV_in hs ho h0 h1]; have hl : ((z.drop p.toNat).take s.toNat).length = s.toNat := by simp; omega
  have hy := byt_drop_take hb p.toNat s.toNat; unfold getL
  rcases ho with rfl | rfl
  · rw [if_pos rfl, if_pos rfl]
    have := leb_be _ hy; rw [hl] at this; exact this
  · rw [if_neg (by decide), if_neg (by decide)]
    have hr : Byt ((z.drop p.toNat).take s.toNat).reverse := fun x hx => hy x (List.mem_reverse.1 hx); have := leb_be _ hr; rw [List.length_reverse, hl, List.reverse_reverse] at this; rw [this, List.reverse_reverse]

theorem turnIx_twice {n p i : Nat} (hp : 0 < p) (h : i < n) : turnIx n p (turnIx n p i) = i := by
  obtain ⟨q, hq⟩ : ∃ q, i / p = q := ⟨_, rfl⟩; obtain ⟨r, hr⟩ : ∃ r, i % p = r := ⟨_, rfl⟩; obtain ⟨M, hM⟩ : ∃ M, n - n % p = M := ⟨_, rfl⟩; have hn : M = p * (n / p) := by have := Nat.div_add_mod n p; omega
  have hi := Nat.div_add_mod i p; have hrp : r < p := by rw [← hr]; exact Nat.mod_lt i hp
  rw [hq, hr] at hi; have key : turnIx n p i = if i < M then i - r + p - 1 - r else i := by unfold turnIx; rw [hM, hr]
  rw [key]
  by_cases h1 : i < M
  · rw [if_pos h1]
    have h2 : p * (q + 1) ≤ M := by
      rw [hn] at h1 ⊢; have hq2 : i / p < n / p := Nat.div_lt_of_lt_mul h1; rw [hq] at hq2; exact Nat.mul_le_mul (Nat.le_refl _) hq2
    rw [Nat.mul_add, Nat.mul_one] at h2; obtain ⟨A, hA⟩ : ∃ A, p * q = A := ⟨_, rfl⟩; have hm : (p * q + (p - 1 - r)) % p = p - 1 - r := by rw [Nat.mul_add_mod]; exact Nat.mod_eq_of_lt (by omega)
    rw [hA] at hi h2 hm; have e : i - r + p - 1 - r = A + (p - 1 - r) := by omega
    rw [e]; unfold turnIx; rw [hM, hm, if_pos (by omega)]
    omega
  · rw [if_neg h1, key, if_neg h1]
theorem turned_twice {p : Nat} (hp : 0 < p) (b : List Int) : turned p (turned p b) = b := by
  refine list_ext0 (by rw [turned_len, turned_len]) fun k hk => ?_; rw [turned_len, turned_len] at hk; rw [turned_get (by rw [turned_len]; exact hk), turned_len, turned_get (turnIx_lt hp hk), turnIx_twice hp hk]
theorem turnS_twice {b : List Int} {s o : Int} (h : turnB s o = true) (hs : 0 < s) : turnS (turnS b s o) s o = b := by
  unfold turnS; rw [if_pos h, if_pos h]
  by_cases ho : o = 1
  · rw [if_pos ho, if_pos ho]
    exact turned_twice (by omega) b
  · rw [if_neg ho, if_neg ho]
theorem turnS_len2 {b : List Int} {s o : Int} (h : turnB s o = true) : (turnS b s o).length = b.length := by
  unfold turnS; rw [if_pos h]
  split
  · exact turned_len _ _
  · rfl
/-- what may be has a kind -/
structure MayF (y k : Int) (d : List Int) (o : Int) : Prop where
  y1 : 1 ≤ y
  y2 : y ≤ 12
  k1 : 1 ≤ k
  k2 : k ≤ 65536
  s1 : 1 ≤ (kindS y).1
  s8 : (kindS y).1 ≤ 8
  len : (d.length : Int) = k * (kindS y).1
  long : longS y k = d.length
  part : 0 < (kindS y).2.1
  turn : turnB (kindS y).2.1 o = true
  small : d.length ≤ 524288
theorem mayF {y k : Int} {d : List Int} {o : Int} (h : mayS y k d = true) (ho : o = 1 ∨ o = 2) : MayF y k d o := by
  unfold mayS at h; simp only [Bool.and_eq_true, decide_eq_true_eq] at h; obtain ⟨⟨⟨⟨h1, h2⟩, h3⟩, h4⟩, _⟩ := h; have hb := kindS_size y
  have hy : 1 ≤ y ∧ y ≤ 12 := by
    refine Classical.byContradiction fun hn => h1 ?_
    by_cases h0 : y = 0
    · rw [h0]; decide
    · rw [kindS_out (by omega)]
  have hp : 0 < (kindS y).2.1 ∧ ((kindS y).2.1 = 1 ∨ (kindS y).2.1 = 2 ∨ (kindS y).2.1 = 4 ∨ (kindS y).2.1 = 8) := by
    rcases (by omega : y = 1 ∨ y = 2 ∨ y = 3 ∨ y = 4 ∨ y = 5 ∨ y = 6 ∨ y = 7 ∨ y = 8 ∨ y = 9 ∨ y = 10 ∨ y = 11 ∨ y = 12) with rfl | rfl | rfl | rfl | rfl | rfl | rfl | rfl | rfl | rfl | rfl | rfl <;> decide
  have hl : longS y k = d.length := by unfold longS; rw [if_neg (by omega), h4]
  have hL := longS_le y k; refine ⟨hy.1, hy.2, h2, h3, by omega, hb.2, h4, hl, hp.1, ?_, by omega⟩; unfold turnB mayB
  simp
  omega
theorem bytesV_eq {x : Tgs} {o : Int} (h : okT x = true) : bytesV x o = turnS x.2.2.2 (kindS x.2.1).2.1 o := by
  unfold bytesV; unfold okT at h; rw [if_pos h]
theorem bytesV_len {x : Tgs} {o : Int} (h : okT x = true) (ho : o = 1 ∨ o = 2) : (bytesV x o).length = x.2.2.2.length := by
  rw [bytesV_eq h, turnS_len2 (mayF h ho).turn]
theorem inlV_iff {x : Tgs} {o : Int} (h : okT x = true) (ho : o = 1 ∨ o = 2) (ht : tagB x.1 = true) : inlV x o = decide (outS x.2.1 x.2.2.1 = 0) := by
  have hm := mayF h ho
  have hlen : (1 : Int) ≤ x.2.2.2.length := by
    rw [hm.len]; have h1 := hm.k1; have h2 := hm.s1; have := Int.mul_le_mul h1 h2 (by decide) (by omega)
    omega
  unfold inlV eofB outS; rw [hm.long, bytesV_len h ho]; have hp : putOk x.1 2 o = true := (putOk_iff ho).2 (by unfold tagB at ht; simp at ht; unfold topS; simp; omega); rw [hp, Bool.true_and]
  generalize x.2.2.2.length = q at hlen ⊢
  by_cases h4 : 4 < (q : Int)
  · rw [if_pos h4, decide_eq_false (show ¬ q ≤ 4 by omega), Bool.and_false, decide_eq_false (show ¬ (q : Int) = 0 by omega)]
  · rw [if_neg h4, decide_eq_true (show q ≠ 0 by omega), decide_eq_true (show q ≤ 4 by omega)]
    rfl
theorem outS_len {x : Tgs} {o : Int} (h : okT x = true) (ho : o = 1 ∨ o = 2) (hn : outS x.2.1 x.2.2.1 ≠ 0) : outS x.2.1 x.2.2.1 = (bytesV x o).length ∧ 4 < (bytesV x o).length := by
  have hm := mayF h ho; rw [bytesV_len h ho]; unfold outS at hn ⊢; rw [hm.long] at hn ⊢
  split at hn
  · rename_i hc
    rw [if_pos hc]; omega
  · exact absurd rfl hn
theorem byt_turn2 {b : List Int} (h : Byt b) (s o : Int) : Byt (turnS b s o) := by
  unfold turnS
  split
  · split
    · intro x hx
      unfold turned at hx; obtain ⟨i, _, rfl⟩ := List.mem_map.1 hx; exact h.get _
    · exact h
  · intro x hx; cases hx
theorem byt_padB {b : List Int} (h : Byt b) : Byt (padB b) := h.append fun x hx => by
  have := (List.mem_replicate.1 hx).2
  omega
theorem padB_len4 {b : List Int} (h : b.length ≤ 4) : (padB b).length = 4 := by unfold padB; simp; omega
theorem slot_bound {x : Tgs} {o : Int} (hb : Byt x.2.2.2) (h : okT x = true) (ho : o = 1 ∨ o = 2) (hi : inlV x o = true) : 0 ≤ getV (padB (bytesV x o)) 0 4 o ∧ getV (padB (bytesV x o)) 0 4 o < 4294967296 := by
  have hl : (bytesV x o).length ≤ 4 := by
    unfold inlV eofB at hi
    simp at hi
    omega
  have hby : Byt (bytesV x o) := by rw [bytesV_eq h]; exact byt_turn2 hb _ _
  have := getV_bound (byt_padB hby) (p := 0) (s := 4) (o := o) (by decide) ho (by decide) (by rw [padB_len4 hl]; decide); rw [show topS 4 = 4294967296 by decide] at this; exact this
/-- a value that is read where it stands is what it was -/
theorem ofS_back {x : Tgs} {o : Int} {b : List Int} (h : okT x = true) (ho : o = 1 ∨ o = 2) (hb : b.take (bytesV x o).length = bytesV x o) : ofS x.2.1 x.2.2.1 b o = some x.2.2.2 := by
  have hm := mayF h ho; have hl := bytesV_len h ho
  have hbl : (bytesV x o).length ≤ b.length := by
    have := congrArg List.length hb; rw [List.length_take] at this
    omega
  have e : (x.2.2.1 * (kindS x.2.1).1).toNat = (bytesV x o).length := by rw [← hm.len, hl]; simp
  have h1 := hm.s1; have h2 := hm.k1; have h3 := hm.k2; have h4 := hm.len; rw [ofS_yes (by omega), e, hb, bytesV_eq h, turnS_twice hm.turn hm.part, if_pos (show mayS x.2.1 x.2.2.1 x.2.2.2 = true from h)]
theorem inS_back {x : Tgs} {o : Int} (hb : Byt x.2.2.2) (h : okT x = true) (ho : o = 1 ∨ o = 2) (hi : inlV x o = true) (t : Int) : inS (t, x.2.1, x.2.2.1, getV (padB (bytesV x o)) 0 4 o) o = some (x.2.2.2, true) := by
  have hm := mayF h ho
  have hl : (bytesV x o).length ≤ 4 ∧ (bytesV x o).length ≠ 0 := by
    unfold inlV eofB at hi
    simp at hi
    refine ⟨by omega, fun e => hi.1.2 (List.length_eq_zero_iff.1 e)⟩
  have hby : Byt (bytesV x o) := by rw [bytesV_eq h]; exact byt_turn2 hb _ _
  have hbl := bytesV_len h ho; have hp := put_getV (byt_padB hby) (p := 0) (s := 4) (o := o) (by decide) ho (by decide) (by rw [padB_len4 hl.1]; decide)
  have e4 : ((padB (bytesV x o)).drop (0 : Int).toNat).take (4 : Int).toNat = padB (bytesV x o) := by
    show ((padB (bytesV x o)).drop 0).take 4 = _
    rw [List.drop_zero, List.take_of_length_le (by rw [padB_len4 hl.1]; exact Nat.le_refl _)]
  rw [e4] at hp; have hs := slot_bound hb h ho hi; unfold inS; simp only; rw [hp, ofS_back h ho (by unfold padB; rw [List.take_left'] ; rfl)]; have hk : putOk (getV (padB (bytesV x o)) 0 4 o) 4 o = true := (putOk_iff ho).2 (by rw [show topS 4 = 4294967296 by decide]; exact hs)
  have hil : inlB x.2.1 x.2.2.1 = true := by
    unfold inlB; rw [hm.long]
    simp
    omega
  rw [hk, hil, if_pos (show (true && true) = true from rfl), Option.map_some]
  congr 2
  rw [← hbl]; unfold padB zerosB; rw [List.drop_left']
  · simp
  · rfl
end Go.Proofs.YtceclmpmpldmlaaGreat
