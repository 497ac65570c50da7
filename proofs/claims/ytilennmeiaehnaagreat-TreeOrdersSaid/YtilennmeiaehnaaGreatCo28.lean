/- Chapter 21: a tree's bytes: plain words. -/
import Derived.Lib.BufferWrite
import Derived.Test.YtilennmeiaehnaaGreatCo25
import Derived.Test.YtilennmeiaehnaaGreatCo27
namespace Go.Proofs.YtilennmeiaehnaaGreat
open Go.RowKit Tt
set_option linter.unusedVariables false
set_option linter.unusedSimpArgs false

/-- a directory's entries -/
def entD : (f : Nat) → DirT f → Nat
  | 0, _ => 0
  | f + 1, d => entN d.1.length d.2.1.length d.2.2.length
/-- the number of a directory of the chain -/
def noT (f : Nat) (ds : List (DirT f)) (k : Nat) : Int := (flatT f (ds.take k)).length
/-- where the place of a directory of the chain is told -/
def lnkT (l : List Spt) (f : Nat) (ds : List (DirT f)) : Nat → Int
  | 0 => 4
  | k + 1 => atS l 2 (noT f ds k) 0 + 2 + 12 * (entD f (ds.getD k (dirZ f)) : Nat)
def chW (L : List Shp) (l : List Spt) (o : Int) (f : Nat) (ds : List (DirT f)) (n : Nat) : List Pt :=
  (List.range n).flatMap fun k => dirW L l o f (ds.getD k (dirZ f)) (noT f ds k) (nxtS L k) ++ [((lnkT l f ds k).toNat, putS (atS l 2 (noT f ds k) 0) 4 o)]
def signP (o : Int) : List Pt := (0, [77, 77]) :: if o = 1 then [(0, [73, 73])] else []
def treeP (f : Nat) (o : Int) (ds : List (DirT f)) (L : List Shp) : List Pt := signP o ++ (2, putS 42 2 o) :: chW L (layT f ds) o f ds ds.length
def treeW (f : Nat) (o : Int) (ds : List (DirT f)) (L : List Shp) : List Int := apP (treeP f o ds L) (List.replicate (longT f ds).toNat 0)
/-- all of a tree has its place -/
structure OKT (f : Nat) (o : Int) (ds : List (DirT f)) (L : List Shp) : Prop where
  shp : shapesB L = true
  ord : o = 1 ∨ o = 2
  n8 : 8 ≤ longT f ds
  n1 : longT f ds ≤ 1000000000000
  fit : fitT f ds = true
  nx : ∀ k, k < ds.length → 0 ≤ nxtS L k
  dir : ∀ k, k < ds.length → okW L (layT f ds) (longT f ds).toNat o f (ds.getD k (dirZ f)) (noT f ds k) (nxtS L k)
  lnk : ∀ k, k < ds.length → 0 ≤ lnkT (layT f ds) f ds k ∧ (lnkT (layT f ds) f ds k).toNat + 4 ≤ (longT f ds).toNat
  pk : ∀ k, k < ds.length → putOk (atS (layT f ds) 2 (noT f ds k) 0) 4 o = true
def wrtS (f : Nat) (o : Int) (ds : List (DirT f)) (L : List Shp) : List Int := if checkS f o ds L = 0 then treeW f o ds L else []
theorem treeW_eq (f : Nat) (o : Int) (ds : List (DirT f)) (L : List Shp) : treeW f o ds L = apP (chW L (layT f ds) o f ds ds.length) (splice (apP (signP o) (List.replicate (longT f ds).toNat 0)) 2 (putS 42 2 o)) := by
  unfold treeW treeP; rw [apP_append]; rfl
theorem noT_step (f : Nat) (ds : List (DirT f)) {k : Nat} (h : k < ds.length) : noT f ds (k + 1) = noT f ds k + (flatS f (ds.getD k (dirZ f))).length := by
  unfold noT flatT
  rw [List.take_add_one, List.getElem?_eq_getElem h, Option.toList_some, List.flatMap_append, List.length_append, getD_el h]
  simp
theorem noT_le (f : Nat) (ds : List (DirT f)) (k : Nat) : 0 ≤ noT f ds k ∧ noT f ds k ≤ (flatT f ds).length := by
  have h : (flatT f ds).length = (flatT f (ds.take k)).length + (flatT f (ds.drop k)).length := by
    conv => lhs; rw [← List.take_append_drop k ds]
    unfold flatT
    rw [List.flatMap_append, List.length_append]
  unfold noT; omega
theorem chW_step (L : List Shp) (l : List Spt) (o : Int) (f : Nat) (ds : List (DirT f)) (k : Nat) : chW L l o f ds (k + 1) = chW L l o f ds k ++ (dirW L l o f (ds.getD k (dirZ f)) (noT f ds k) (nxtS L k) ++ [((lnkT l f ds k).toNat, putS (atS l 2 (noT f ds k) 0) 4 o)]) := by
  unfold chW; rw [List.range_succ, List.flatMap_append]; simp
theorem dirR_ent {w : World} : ∀ {f : Nat} {d : DirT f} {ta : Option Addr} {tn tc : Nat} {sa : Option Addr} {sn sc : Nat} {ba : Option Addr} {bn bc : Nat}, DirR w f d (.slice ta tn tc, .slice sa sn sc, .slice ba bn bc) → smallD f d → entD f d = entN tn sn bn ∧ tn ≤ 60 ∧ sn ≤ 6 ∧ bn ≤ 600
  | 0, _, _, _, _, _, _, _, _, _, _, h, _ => h.elim
  | f + 1, d, ta, tn, tc, sa, sn, sc, ba, bn, bc, h, hs => by
    obtain ⟨ta', tn', tc', zs, sa', sn', sc', ds, ba', bn', bc', hv, htg, hdt, hsl, hdl, _, hbl⟩ := h
    obtain ⟨h1, h2, h3, _⟩ := hs
    simp only [Prod.mk.injEq, Value.slice.injEq] at hv
    obtain ⟨⟨_, rfl, _⟩, ⟨_, rfl, _⟩, _, rfl, _⟩ := hv
    have htn : d.1.length = tn := by rw [hdt, List.length_map]; exact htg.len
    have hsn : d.2.1.length = sn := by rw [← hdl]; exact hsl.flen sbC_len (by decide)
    have hbn : d.2.2.length = bn := hbl.ilen
    refine ⟨?_, by omega, by omega, by omega⟩
    show entN d.1.length d.2.1.length d.2.2.length = _
    rw [htn, hsn, hbn]
/-- a string is copied into the page -/
theorem page_str {K : Wc} {w : World} {no : Int} {P : List Int} (h : WrS K w no P) (s : ByteArray) (by_ : List Int) (hb : Go.Lib.byteCells s.data.toList = ints .u8 by_) (hl : by_.length = s.size) (hn : s.size ≤ K.n) (sT ty : TypeId) :
    ∃ w', (Builtin.copy_ #[30, sT] ty #[.slice (some ⟨K.gb, 0, none⟩) K.n K.n, .string s]).run Tryz.prog w = .ok (goInt s.size) w' ∧ WrS K w' no (splice P 0 by_) ∧ Mv K.gw K.gb nilV nilV w w' := by
  have hsz : (Tryz.prog.info? 5).map (·.size) = some 1 := by kernel_rfl
  have hr := Go.Lib.run_copy_row_string (P := Tryz.prog) w 30 sT ty 5 K.gb 0 K.n K.n s (ints .u8 P).toArray 5 Tryz.underlying30 hsz h.row hn (by simp [ints_len, h.len]; exact hn)
  have e : (((ints .u8 P).toArray.toList.take 0 ++ Go.Lib.byteCells s.data.toList ++ (ints .u8 P).toArray.toList.drop (0 + s.size)).toArray) = (ints .u8 (splice P 0 by_)).toArray := by
    rw [hb, ← ints_splice]
    unfold splice
    simp [ints_len, hl]
  rw [e] at hr
  refine ⟨_, hr, ?_, ⟨rfl, rfl, rfl, by simp [World.setRow], fun k hk h2 h3 _ => setRow_other w K.gb k _ h3, fun _ h => .inl h⟩⟩
  have ho : ∀ k, k ≠ K.gb → (w.setRow K.gb (ints .u8 (splice P 0 by_)).toArray).heap[k]? = w.heap[k]? := fun k hk => setRow_other w K.gb k _ hk
  refine ⟨(ho _ h.ne).trans h.blk, setRow_heap w K.gb (ints .u8 P).toArray (ints .u8 (splice P 0 by_)).toArray 5 (0, 0) h.row, by rw [splice_len (by rw [hl, h.len]; omega)]; exact h.len, ?_, h.spne, h.ne, h.splt, by simp [World.setRow]; exact h.sble⟩
  exact sl_eqs h.sp (by simp [World.setRow]) (fun x e hx => ho _ (h.spne x e).2)
end Go.Proofs.YtilennmeiaehnaaGreat
