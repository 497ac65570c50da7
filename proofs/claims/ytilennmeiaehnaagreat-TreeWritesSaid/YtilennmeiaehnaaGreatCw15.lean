/- Chapter 21: has a directory a shape; the chain of shapes; check: plain. | copy, append of zeros, overlaps: of elements of more cells. | Boxes: a few blocks laid one behind the other: of whatever program. | Chapter 21: a tree's bytes: plain words; the writer in memory. | Chapter 19: an entry's bytes: the program. -/
import Derived.Test.YtilennmeiaehnaaGreatCw14
import Derived.Test.YtilennmeiaehnaaGreatCw08
import Derived.Laws.CopyOwn
import Derived.Lib.SliceRun
import Derived.Lib.AppendZeros
import Derived.Lib.AppendZerosOnto
import Derived.Lib.Overlaps
import Derived.Deep.RegionLaw
import Derived.Test.YtilennmeiaehnaaGreatCw01
import Derived.Test.YtilennmeiaehnaaGreatCw00
import Derived.Test.YtilennmeiaehnaaGreatCw03
import Derived.Test.YtilennmeiaehnaaGreatCw05
namespace Go.Proofs.YtilennmeiaehnaaGreat
open Go.RowKit Tt
set_option linter.unusedVariables false
set_option linter.unusedSimpArgs false

theorem rng_no {n k : Nat} {p : Nat → Bool} (hk : k < n) (h : p k = false) : (List.range n).all p = false := by
  cases hh : (List.range n).all p with
  | false => rfl
  | true => rw [List.all_eq_true.1 hh k (List.mem_range.2 hk)] at h; exact absurd h (by decide)
theorem rng_yes {n : Nat} {p : Nat → Bool} (h : ∀ k, k < n → p k = true) : (List.range n).all p = true := List.all_eq_true.2 fun k hk => h k (List.mem_range.1 hk)
def tg0 : Tgs := (0, 0, 0, [])
def dirZ : (f : Nat) → DirT f
  | 0 => ()
  | _ + 1 => ([], [], [])
def tgB (s : Shp) (ts : List Tgs) (k : Nat) : Bool :=
  tagB (ts.getD k tg0).1 && (decide (k = 0) || decide ((ts.getD (k - 1) tg0).1 < (ts.getD k tg0).1)) && !ownP s (ts.getD k tg0).1 && okT (ts.getD k tg0)
/-- the shape that a link of a shape leads to -/
def subI (s : Shp) (t : Int) : Int := (s.1.getD (fst (fun y => y.1 == t) s.1).toNat (0, 0)).2
def sbB {f : Nat} (has : DirT f → Int → Bool) (s : Shp) (ss : List (Int × DirT f)) (k : Nat) : Bool :=
  linkP s (ss.getD k (0, dirZ f)).1 && (decide (k = 0) || decide ((ss.getD (k - 1) (0, dirZ f)).1 < (ss.getD k (0, dirZ f)).1)) && has (ss.getD k (0, dirZ f)).2 (subI s (ss.getD k (0, dirZ f)).1)
def ownB (s : Shp) (d : List Tgs) : Bool := (List.range d.length).all (tgB s d)
def hasH (s : Shp) (e b : Nat) : Bool := decide (1 ≤ e) && decide (e ≤ 65535) && (decide (b = 0) || !decide (s.2.1 = 0))
def hasS (L : List Shp) : (f : Nat) → DirT f → Int → Bool
  | 0, _, _ => false
  | f + 1, d, i => hasH (L.getD i.toNat shp0) (entN d.1.length d.2.1.length d.2.2.length) d.2.2.length && ownB (L.getD i.toNat shp0) d.1 &&
      (List.range d.2.1.length).all (sbB (hasS L f) (L.getD i.toNat shp0) d.2.1)
theorem hasS_succ (L : List Shp) (f : Nat) (d : DirT (f + 1)) (i : Int) : hasS L (f + 1) d i =
    (hasH (L.getD i.toNat shp0) (entN d.1.length d.2.1.length d.2.2.length) d.2.2.length && ownB (L.getD i.toNat shp0) d.1 && (List.range d.2.1.length).all (sbB (hasS L f) (L.getD i.toNat shp0) d.2.1)) := rfl
/-- the shapes of the chain -/
def nxtS (L : List Shp) : Nat → Int
  | 0 => 0
  | k + 1 => (L.getD (nxtS L k).toNat shp0).2.2.2
def chainB (L : List Shp) (n : Nat) : Bool := (List.range n).all fun k => decide (0 ≤ nxtS L k)
def hasAll (L : List Shp) (f : Nat) (ds : List (DirT f)) : Bool := (List.range ds.length).all fun k => hasS L f (ds.getD k (dirZ f)) (nxtS L k)
def checkS (f : Nat) (o : Int) (ds : List (DirT f)) (L : List Shp) : Int :=
  if (shapesB L && (decide (o = 1) || decide (o = 2)) && !decide (ds.length = 0)) = true then
    if chainB L ds.length = true then
      if hasAll L f ds = true then (if longT f ds = 0 then 7 else 0) else 6
    else 1
  else 1
theorem shapesB_get {L : List Shp} (h : shapesB L = true) {i : Nat} (hi : i < L.length) : shapeB L.length i (L.getD i shp0) = true := by
  unfold shapesB at h
  simp only [Bool.and_eq_true] at h
  exact List.all_eq_true.1 h.2 i (List.mem_range.2 hi)
theorem shapesB_len {L : List Shp} (h : shapesB L = true) : 1 ≤ L.length ∧ L.length ≤ 16 := by
  unfold shapesB at h
  simp only [Bool.and_eq_true, decide_eq_true_eq] at h
  exact h.1
theorem shapeB_next {n i : Nat} {s : Shp} (h : shapeB n i s = true) : s.2.2.2 = -1 ∨ ((i : Int) < s.2.2.2 ∧ s.2.2.2 < n) := by
  unfold shapeB nextB lateB at h
  simp only [Bool.and_eq_true, Bool.or_eq_true, decide_eq_true_eq] at h
  exact h.1.2
theorem shapeB_lk {n i k : Nat} {s : Shp} (h : shapeB n i s = true) (hk : k < s.1.length) : linkB n i s k = true := by
  unfold shapeB at h
  simp only [Bool.and_eq_true] at h
  exact List.all_eq_true.1 h.1.1 k (List.mem_range.2 hk)
theorem linkB_late {n i k : Nat} {s : Shp} (h : linkB n i s k = true) : (i : Int) < (s.1.getD k (0, 0)).2 ∧ (s.1.getD k (0, 0)).2 < n := by
  unfold linkB lateB at h
  simp only [Bool.and_eq_true, decide_eq_true_eq] at h
  exact h.1.2
theorem shapeB_pair {n i : Nat} {s : Shp} (h : shapeB n i s = true) : (s.2.1 = 0 ∧ s.2.2.1 = 0) ∨ (1 ≤ s.2.1 ∧ s.2.1 < s.2.2.1 ∧ s.2.2.1 < 65536) := by
  unfold shapeB blobB tagB at h
  simp only [Bool.and_eq_true, Bool.or_eq_true, decide_eq_true_eq] at h
  omega
theorem nxt_lt {L : List Shp} (h : shapesB L = true) : ∀ k, nxtS L k < L.length ∧ -1 ≤ nxtS L k := by
  have hl := shapesB_len h
  intro k
  induction k with
  | zero => unfold nxtS; omega
  | succ k ih =>
    unfold nxtS
    have := shapeB_next (shapesB_get h (i := (nxtS L k).toNat) (by omega))
    omega
theorem chainB_step {L : List Shp} {n : Nat} : chainB L (n + 1) = (chainB L n && decide (0 ≤ nxtS L n)) := by
  unfold chainB
  rw [List.range_succ, List.all_append]
  simp
theorem chainB_no {L : List Shp} {n k : Nat} (hk : k < n) (h : nxtS L k < 0) : chainB L n = false := rng_no hk (by simp; omega)
theorem fst_bounds {α : Type} {p : α → Bool} {l : List α} : -1 ≤ fst p l ∧ fst p l < l.length := by
  unfold fst
  cases h : l.findIdx? p with
  | none => simp; omega
  | some i =>
    simp only
    have := List.findIdx?_eq_some_iff_getElem.1 h
    obtain ⟨h1, _⟩ := this
    omega
theorem subI_ok {L : List Shp} {i : Nat} {t : Int} (h : shapesB L = true) (hi : i < L.length) (hl : linkP (L.getD i shp0) t = true) : (i : Int) < subI (L.getD i shp0) t ∧ subI (L.getD i shp0) t < L.length := by
  have hs := shapesB_get h hi
  have hb := fst_bounds (p := fun (y : Lk) => y.1 == t) (l := (L.getD i shp0).1)
  have ha := fst_any (p := fun (y : Lk) => y.1 == t) (l := (L.getD i shp0).1)
  unfold linkP at hl
  rw [hl, decide_eq_true_eq] at ha
  have := linkB_late (shapeB_lk hs (k := (fst (fun (y : Lk) => y.1 == t) (L.getD i shp0).1).toNat) (by omega))
  exact this
theorem ownP_prog {n i : Nat} {s : Shp} (h : shapeB n i s = true) (t : Int) : ((decide (0 < s.2.1) && (t == s.2.1 || t == s.2.2.1)) || s.1.any fun y => y.1 == t) = ownP s t := by
  unfold ownP linkP pairP
  rw [Bool.or_comm]
  congr 1
theorem ownD_ok {n i : Nat} {s : Shp} (h : shapeB n i s = true) (t : Int) : ownD s.1 s.2.1 s.2.2.1 t = ownP s t := by
  unfold ownD ownP linkP pairP
  rw [fst_any]
  congr 1
  have := shapeB_pair h
  have e : (s.2.1 != 0) = decide (0 < s.2.1) := by
    rw [Bool.eq_iff_iff]; simp; omega
  rw [e]
  congr 1
end Go.Proofs.YtilennmeiaehnaaGreat

namespace Tt
open Go Go.RowKit
set_option linter.unusedVariables false
set_option linter.unusedSimpArgs false

section
variable {P : Program}
theorem run_copy_sz (w : World) (dT sT ty elem : TypeId) (sz g o dLen dCap : Nat) (a : Addr) (sLen sCap : Nat) (cur : Array Value) (t : TypeId) (cs : List Value)
    (hu : P.underlying dT = some (.slice elem)) (hs : (P.info? elem).map (·.size) = some sz)
    (hg : w.heap[g]? = some (.cells cur t (0, 0))) (hn : cs.length = Nat.min sLen dLen * sz)
    (hsrc : ∀ j v, cs[j]? = some v → w.cell? (a.add j) = some v) (hfit : o + cs.length ≤ cur.size) (h1 : ∀ v ∈ cs, v.oneCell' = true) :
    (Builtin.copy_ #[dT, sT] ty #[.slice (some ⟨g, o, none⟩) dLen dCap, .slice (some a) sLen sCap]).run P w =
      .ok (goInt (Nat.min sLen dLen : Nat)) (w.setRow g (splice cur.toList o cs).toArray) := by
  have hl := run_loadCells_list (P := P) w a cs hsrc
  have hst := run_storeCells_at P g o t cs 0 cur w hg (by simpa using hfit) h1
  rw [hn] at hl
  cases hq : P.info? elem with
  | none => simp [hq] at hs
  | some i =>
    have hi : i.size = sz := by simpa [hq] using hs
    simp only [Nat.min_def] at hl hn ⊢
    simp [Builtin.copy_, run_underlying hu, Builtin.lenOf, Builtin.firstCells, Go.sizeOf, typeInfo, hq, hi, hl, hst, Nat.min_def, splice]
theorem wp_copy_run (w : World) {o : Oper} {a : Act} {K : Act → World → Prop} {Q : Exit → Act → World → Prop} (d s : Operand) (t t' : TypeId)
    (ho : o.op = .call { callee := .builtin .copy, args := #[d, s], argTypes := #[t, t'] }) (v u : Value) (hd : a.eval d = v) (hs : a.eval s = u) {v' : Value} {w' : World}
    (hr : (Builtin.copy_ #[t, t'] o.type #[v, u]).run P w = .ok v' w') (h : K (a.put o.dst v') w') : o.wp P a w K Q := by
  unfold Oper.wp execOp
  simp only [ho, resolve, invoke, builtin, Sem.run_bind, Sem.run_pure, Result.andThen_ok, List.map_toArray, List.map_cons, List.map_nil, hd, hs, hr]
  exact h
theorem wpList_copy_run (w : World) {ops : Array Oper} {rest : List Oper} {o : Oper} {a : Act} {Q : Exit → Act → World → Prop} (hgd : o.guard = none) (d s : Operand) (t t' : TypeId)
    (ho : o.op = .call { callee := .builtin .copy, args := #[d, s], argTypes := #[t, t'] }) (v u : Value) (hd : a.eval d = v) (hs : a.eval s = u) {v' : Value} {w' : World}
    (hr : (Builtin.copy_ #[t, t'] o.type #[v, u]).run P w = .ok v' w') (h : wpList P ops Q rest (a.put o.dst v') w') : wpList P ops Q (o :: rest) a w :=
  wpList_plain hgd fun _ hK => wp_copy_run w d s t t' ho v u hd hs hr (hK _ _ h)
end
theorem Blk.row {w : World} {g : Nat} {T : TypeId} {cs : Array Value} (h : Blk w g T cs) (cs' : Array Value) : Blk (w.setRow g cs') g T cs' := setRow_heap w g cs cs' T (0, 0) h
theorem own_of_block {w : World} {B g : Nat} {E : TypeId} {sz n c : Nat} {cur : Array Value} {xs : List Value} (hb : Blk w g E cur) (hB : B ≤ g) (hn : n ≤ c) (hc : c ≤ maxLen) (hs : cur.size = c * sz) (ht : cur.toList.take (n * sz) = xs) : w.ownsRow B E sz (.slice (some ⟨g, 0, none⟩) n c) n xs := by
  refine ⟨?_, .inr ⟨g, c, cur, rfl, hB, hb, hn, hc, hs, ht⟩⟩
  rw [← ht, List.length_take, Array.length_toList, hs]
  have := Nat.mul_le_mul_right sz hn
  omega
section
variable {P : Program} {T E : TypeId} {sz : Nat} (ht : P.underlying T = some (.slice E)) (hE : ∀ w, (Go.sizeOf E).run P w = .ok sz w)
include ht hE
end
end Tt

namespace Tt
open Go Go.RowKit
theorem three_boxes (w : World) (T : TypeId) (a : Array Value) (U : TypeId) (b : Array Value) (V : TypeId) (c : Array Value) : ∃ WC, ((w.alloc (.cells a T)).alloc (.cells b U)).alloc (.cells c V) = WC ∧ Blk WC w.heap.size T a ∧ Blk WC (w.heap.size + 1) U b ∧ Blk WC (w.heap.size + 2) V c ∧ Below w.heap.size w WC ∧ WC.heap.size = w.heap.size + 3 := by
  have hA := Blk.new w T a
  have hB := Blk.new (w.alloc (.cells a T)) U b
  have hC := Blk.new ((w.alloc (.cells a T)).alloc (.cells b U)) V c
  rw [show (w.alloc (.cells a T)).heap.size = w.heap.size + 1 by simp] at hB
  rw [show ((w.alloc (.cells a T)).alloc (.cells b U)).heap.size = w.heap.size + 2 by simp] at hC
  exact ⟨_, rfl, (hA.alloc _).alloc _, hB.alloc _, hC, (((Below.refl w.heap.size w).alloc (Nat.le_refl _) _).alloc (by simp) _).alloc (by simp <;> omega) _, by simp⟩
theorem two_boxes (w : World) (T : TypeId) (a : Array Value) (U : TypeId) (b : Array Value) : ∃ WC, (w.alloc (.cells a T)).alloc (.cells b U) = WC ∧ Blk WC w.heap.size T a ∧ Blk WC (w.heap.size + 1) U b ∧ Below w.heap.size w WC ∧ WC.heap.size = w.heap.size + 2 := by
  have hA := Blk.new w T a
  have hB := Blk.new (w.alloc (.cells a T)) U b
  rw [show (w.alloc (.cells a T)).heap.size = w.heap.size + 1 by simp] at hB
  exact ⟨_, rfl, hA.alloc _, hB, ((Below.refl w.heap.size w).alloc (Nat.le_refl _) _).alloc (by simp) _, by simp⟩
/-- worlds in which what lies below B is as in w, and one cell more is known -/
theorem mix_worlds (B : Nat) (w : World) (p : Addr) (v : Value) (w1 : World) (h : Below B w w1) (hc : w1.cell? p = some v) :
    ∃ (S : Type) (f : S → World), Nonempty S ∧ (∀ s, Below B w (f s)) ∧ (∀ s, (f s).cell? p = some v) ∧ ∀ W, Below B w W → W.cell? p = some v → ∃ s, W = f s :=
  ⟨{W : World // Below B w W ∧ W.cell? p = some v}, Subtype.val, ⟨⟨w1, h, hc⟩⟩, fun s => s.2.1, fun s => s.2.2, fun W h1 h2 => ⟨⟨W, h1, h2⟩, rfl⟩⟩
/-- worlds in which no old block but one has turned -/
theorem but_worlds (b : Nat) (w : World) : ∃ (S : Type) (f : S → World), Nonempty S ∧ (∀ s, But b w (f s)) ∧ ∀ W, But b w W → ∃ s, W = f s :=
  ⟨{W : World // But b w W}, Subtype.val, ⟨⟨w, But.refl b w⟩⟩, fun s => s.2, fun W h => ⟨⟨W, h⟩, rfl⟩⟩
theorem Blk.but_ {w w' : World} {b k : Nat} {T : TypeId} {cs : Array Value} (h : But b w w') (hb : Blk w k T cs) (hk : k ≠ b) : Blk w' k T cs := (h.block k hb.lt hk).trans hb
end Tt

namespace Go.Proofs.YtilennmeiaehnaaGreat
open Go.RowKit Tt
set_option linter.unusedVariables false
set_option linter.unusedSimpArgs false

/-- a value's bytes in an order -/
def bytesV (x : Tgs) (o : Int) : List Int := if mayS x.2.1 x.2.2.1 x.2.2.2 = true then turnS x.2.2.2 (kindS x.2.1).2.1 o else []
def padB (b : List Int) : List Int := b ++ List.replicate (4 - b.length) 0
/-- is a value within its entry? -/
def eofB (tag : Int) (b : List Int) (o : Int) : Bool := putOk tag 2 o && decide (b.length ≠ 0) && decide (b.length ≤ 4)
def entW (x : Ent) (o : Int) : List Int := putS x.1 2 o ++ putS x.2.1 2 o ++ putS x.2.2.1 4 o ++ putS x.2.2.2 4 o
def entOk (x : Ent) (o : Int) : Bool := putOk x.1 2 o && putOk x.2.1 2 o && putOk x.2.2.1 4 o && putOk x.2.2.2 4 o
def atP (what no tag : Int) (s : Spt) : Bool := s.1 == what && s.2.1 == no && s.2.2.1 == tag
def atS (l : List Spt) (what no tag : Int) : Int := match l.find? (atP what no tag) with
  | some s => s.2.2.2.1
  | none => 0
/-- there is such a spot, and room there -/
def Fits (l : List Spt) (n : Nat) (what no tag : Int) (m : Nat) : Prop := (l.any (atP what no tag) = true) ∧ 0 ≤ atS l what no tag ∧ (atS l what no tag).toNat + m ≤ n
abbrev Pt := Nat × List Int
def apP (ps : List Pt) (b : List Int) : List Int := ps.foldl (fun b p => splice b p.1 p.2) b
theorem apP_append (p q : List Pt) (b : List Int) : apP (p ++ q) b = apP q (apP p b) := by unfold apP; rw [List.foldl_append]
theorem splice_len {b by_ : List Int} {i : Nat} (h : i + by_.length ≤ b.length) : (splice b i by_).length = b.length := by unfold splice; simp; omega
def inlV (x : Tgs) (o : Int) : Bool := eofB x.1 (bytesV x o) o
def entT (l : List Spt) (o no : Int) (x : Tgs) : Ent := (x.1, x.2.1, x.2.2.1, if inlV x o = true then getV (padB (bytesV x o)) 0 4 o else atS l 3 no x.1)
def patV (l : List Spt) (o no : Int) (x : Tgs) : List Pt := if inlV x o = true then [] else [((atS l 3 no x.1).toNat, bytesV x o)]
theorem find_any {α : Type} {p : α → Bool} {l : List α} (h : l.any p = true) : ∃ s, l.find? p = some s ∧ l[(fst p l).toNat]? = some s ∧ 0 ≤ fst p l := by
  induction l with
  | nil => cases h
  | cons x r ih =>
    cases hx : p x with
    | true =>
      have hf : fst p (x :: r) = 0 := fst_at (k := 0) (by simp) (by simpa using hx) (fun i hi => by omega)
      exact ⟨x, by simp [List.find?, hx], by rw [hf]; rfl, by rw [hf]; decide⟩
    | false =>
      have hr : r.any p = true := by simpa [hx] using h
      obtain ⟨s, h1, h2, h3⟩ := ih hr
      have hf : fst p (x :: r) = fst p r + 1 := by
        unfold fst at h3 ⊢
        rw [List.findIdx?_cons, hx]
        cases hh : r.findIdx? p with
        | none => rw [hh] at h3; simp at h3
        | some i => simp
      refine ⟨s, by simp [List.find?, hx, h1], ?_, by omega⟩
      rw [hf, show (fst p r + 1).toNat = (fst p r).toNat + 1 by omega]
      exact h2
/-- what a writer is made of -/
structure Wc where
  gw : Nat
  gb : Nat
  n : Nat
  o : Int
  spa : Option Addr
  spn : Nat
  spc : Nat
  l : List Spt
  qa : Option Addr
  qn : Nat
  qc : Nat
  sb : Nat
structure WrS (K : Wc) (w : World) (no : Int) (P : List Int) : Prop where
  blk : Blk w K.gw 86 #[.slice (some ⟨K.gb, 0, none⟩) K.n K.n, .int .i64 K.o, .slice K.spa K.spn K.spc, .slice K.qa K.qn K.qc, .int .i64 no]
  row : Row w K.gb 5 .u8 P
  len : P.length = K.n
  sp : Sl w K.spa K.spn K.spc 5 (fl spC K.l)
  spne : ∀ x, K.spa = some x → x.block ≠ K.gw ∧ x.block ≠ K.gb
  ne : K.gw ≠ K.gb
  splt : ∀ x, K.spa = some x → x.block < K.sb
  sble : K.sb ≤ w.heap.size
abbrev nilV : Value := .slice none 0 0
theorem sl_eqs {w w' : World} {a : Option Addr} {n c sz : Nat} {cs : List Value} (h : Sl w a n c sz cs) (hs : w.heap.size ≤ w'.heap.size) (hb : ∀ x, a = some x → x.block < w.heap.size → w'.heap[x.block]? = w.heap[x.block]?) : Sl w' a n c sz cs :=
  ⟨h.len, h.le, h.max, fun i hi => by
    obtain ⟨g, off, e, hlt, hc⟩ := h.lies i hi
    refine ⟨g, off, e, Nat.lt_of_lt_of_le hlt hs, fun j v hv => ?_⟩
    have h1 := hc j v hv
    have h2 := hb _ e hlt
    unfold World.cell? at h1 ⊢
    rw [h2]
    exact h1, h.fit⟩
theorem WrS.later {K : Wc} {w w' : World} {no : Int} {P : List Int} (h : WrS K w no P) (hb : Below w.heap.size w w') : WrS K w' no P :=
  ⟨h.blk.late hb, Blk.late (T := 5) h.row hb, h.len, h.sp.mono hb, h.spne, h.ne, h.splt, Nat.le_trans h.sble hb.size⟩
theorem WrS.no {K : Wc} {w : World} {no : Int} {P : List Int} (h : WrS K w no P) (m : Int) : WrS K (w.setCell ⟨K.gw, 4, none⟩ (.int .i64 m)) m P ∧ Mv K.gw K.gb nilV nilV w (w.setCell ⟨K.gw, 4, none⟩ (.int .i64 m)) := by
  have hbt := (But.refl K.gw w).set 4 (.int .i64 m)
  exact ⟨⟨h.blk.set 4 _, (hbt.block _ (Row.lt h.row) (Ne.symm h.ne)).trans h.row, h.len, sl_eqs h.sp hbt.size (fun x e hx => hbt.block _ hx (h.spne x e).1), h.spne, h.ne, h.splt, Nat.le_trans h.sble hbt.size⟩, Mv.of_but hbt (.inl rfl)⟩
theorem low_at {P : Program} {T E : TypeId} (ht : P.underlying T = some (.slice E)) (hE : ∀ w, (Go.sizeOf E).run P w = .ok 1 w) (g n q : Nat) (h : q < n) (W : World) :
    (Instr.sliceAt T (.slice (some ⟨g, 0, none⟩) n n) (some (.int .i64 (q : Int))) none none).run P W = .ok (.slice (some ⟨g, q, none⟩) (n - q) (n - q)) W := by
  have he : P.elem T = E := by unfold Program.elem; rw [ht]
  rw [run_sliceAt_slice (h := by rw [he]; exact ht), run_slice_l (ht := by rw [he]; exact ht) (h0 := by omega) (h1 := by omega), he, hE]
  simp only [Result.andThen, sliced]
  have e2 : ¬ n = q := by omega
  simp [e2, Addr.add]
  omega
theorem sizeB : ∀ w, (Go.sizeOf 5).run Tryz.prog w = .ok 1 w := fun w => by kernel_rfl
/-- bytes are copied into the page -/
theorem page_copy {K : Wc} {w : World} {no : Int} {P : List Int} (h : WrS K w no P) (ba : Option Addr) (bm bc : Nat) (by_ : List Int) (hs : Sl w ba bm bc 1 (ints .u8 by_)) (q : Nat) (h1 : 1 ≤ bm) (hq : q + bm ≤ K.n) (ty : TypeId) :
    ∃ w', (Builtin.copy_ #[30, 30] ty #[.slice (some ⟨K.gb, q, none⟩) (K.n - q) (K.n - q), .slice ba bm bc]).run Tryz.prog w = .ok (goInt (bm : Nat)) w' ∧ WrS K w' no (splice P q by_) ∧ Mv K.gw K.gb nilV nilV w w' ∧ But K.gb w w' := by
  have hbl : by_.length = bm := hs.ilen
  obtain ⟨b, off, e, hlt, hc⟩ := hs.lies 0 (by omega)
  subst e
  have hmin : Nat.min bm (K.n - q) = bm := by simp [Nat.min_def]; omega
  have hsz : (Tryz.prog.info? 5).map (·.size) = some 1 := by kernel_rfl
  have hr := run_copy_sz (P := Tryz.prog) w 30 30 ty 5 1 K.gb q (K.n - q) (K.n - q) ⟨b, off, none⟩ bm bc (ints .u8 P).toArray 5 (ints .u8 by_) Tryz.underlying30 hsz h.row (by rw [hmin, ints_len, hbl, Nat.mul_one]) (fun j v hv => by rw [Addr.add_lit]; exact hc j v hv) (by rw [ints_len, hbl]; simp [ints_len, h.len]; omega) ints_one
  rw [hmin] at hr
  refine ⟨_, hr, ?_, ?_, ⟨rfl, rfl, rfl, by simp [World.setRow], fun k hk h2 => setRow_other w K.gb k _ h2⟩⟩
  · have ho : ∀ k, k ≠ K.gb → (w.setRow K.gb (splice (ints .u8 P).toArray.toList q (ints .u8 by_)).toArray).heap[k]? = w.heap[k]? := fun k hk => setRow_other w K.gb k _ hk
    refine ⟨(ho _ h.ne).trans h.blk, ?_, by rw [splice_len (by rw [hbl, h.len]; exact hq)]; exact h.len, ?_, h.spne, h.ne, h.splt, by simp [World.setRow]; exact h.sble⟩
    · have := setRow_heap w K.gb (ints .u8 P).toArray (splice (ints .u8 P).toArray.toList q (ints .u8 by_)).toArray 5 (0, 0) h.row
      unfold Row
      rw [this]
      have e : (ints .u8 P).toArray.toList = ints .u8 P := by simp
      rw [e, ints_splice]
    · exact sl_eqs h.sp (by simp [World.setRow]) (fun x e hx => ho _ (h.spne x e).2)
  · exact ⟨rfl, rfl, rfl, by simp [World.setRow], fun k hk h2 h3 _ => setRow_other w K.gb k _ h3, fun _ h => .inl h⟩
/-- what lies elsewhere stays -/
theorem Mv.sl {g gt : Nat} {w w' : World} {a : Option Addr} {n c sz : Nat} {cs : List Value} (h : Mv g gt nilV nilV w w') (hs : Sl w a n c sz cs) (hb : ∀ x, a = some x → x.block ≠ g ∧ x.block ≠ gt) : Sl w' a n c sz cs :=
  sl_eqs hs h.size (fun x e hx => h.block _ hx (hb x e).1 (hb x e).2 (by intro e; cases e))
theorem Mv.blk {g gt : Nat} {w w' : World} {k : Nat} {T : TypeId} {cs : Array Value} (h : Mv g gt nilV nilV w w') (hb : Blk w k T cs) (h1 : k ≠ g) (h2 : k ≠ gt) : Blk w' k T cs := (h.block k hb.lt h1 h2 (by intro e; cases e)).trans hb
theorem Mv.own {g gt : Nat} {w w' : World} {B : Nat} {E : TypeId} {sz n : Nat} {v : Value} {xs : List Value} (h : Mv g gt nilV nilV w w') (ho : w.ownsRow B E sz v n xs) (h1 : v.ownBlock ≠ some g) (h2 : v.ownBlock ≠ some gt) : w'.ownsRow B E sz v n xs := by
  obtain ⟨hl, hr⟩ := ho
  refine ⟨hl, ?_⟩
  rcases hr with hn | ⟨b, cap, cur, rfl, hB, hg, r⟩
  · exact .inl hn
  · exact .inr ⟨b, cap, cur, rfl, hB, (h.block b (Array.getElem?_eq_some_iff.1 hg).1 (fun e => h1 (by rw [← e]; rfl)) (fun e => h2 (by rw [← e]; rfl)) (by intro e; cases e)).trans hg, r⟩
/-- another block has turned -/
theorem WrS.but {K : Wc} {w w' : World} {no : Int} {P : List Int} {g : Nat} (h : WrS K w no P) (hb : But g w w') (h1 : g ≠ K.gw) (h2 : g ≠ K.gb) (h3 : K.sb ≤ g) : WrS K w' no P :=
  ⟨Blk.but_ hb h.blk (Ne.symm h1), (hb.block _ (Row.lt h.row) (Ne.symm h2)).trans h.row, h.len, sl_eqs h.sp hb.size (fun x e hx => hb.block _ hx (by have := h.splt x e; omega)), h.spne, h.ne, h.splt, Nat.le_trans h.sble hb.size⟩
theorem Mv.new {g gt b : Nat} {w w1 w2 : World} (h : Mv g gt nilV nilV w w1) (hb : But b w1 w2) (h1 : w.heap.size ≤ b) : Mv g gt nilV nilV w w2 :=
  ⟨hb.os.trans h.os, hb.tape.trans h.tape, hb.output.trans h.output, Nat.le_trans h.size hb.size, fun k hk h2 h3 h4 => (hb.block k (Nat.lt_of_lt_of_le hk h.size) (by omega)).trans (h.block k hk h2 h3 h4), fun _ e => by cases e⟩
end Go.Proofs.YtilennmeiaehnaaGreat

namespace Go.Proofs.YtilennmeiaehnaaGreat
open Go.RowKit Tt
set_option linter.unusedVariables false
set_option linter.unusedSimpArgs false

theorem putS_length {n s o : Int} (h : putOk n s o = true) : (putS n s o).length = s.toNat := by
  unfold putS
  rw [if_pos h]
  split <;> simp [leb_len]
def preE (x : Ent) (o k : Int) : List Int :=
  if k = 0 then [] else if k = 1 then putS x.1 2 o else if k = 2 then putS x.1 2 o ++ putS x.2.1 2 o else if k = 3 then putS x.1 2 o ++ putS x.2.1 2 o ++ putS x.2.2.1 4 o else entW x o
def lenE (k : Int) : Nat := if k = 0 then 0 else if k = 1 then 2 else if k = 2 then 4 else if k = 3 then 8 else 12
theorem infoBB : (Tryz.prog.info? 5).map (fun i => (i.zero, i.size, i.bytes)) = some (some (.int .u8 0), 1, 1) := by kernel_rfl
theorem own_ne_blk0 {w : World} {B : Nat} {E T : TypeId} {sz : Nat} {v : Value} {n g : Nat} {xs : List Value} {cs : Array Value} (h : w.ownsRow B E sz v n xs) (hb : Blk w g T cs) (hE : E ≠ T) : v.ownBlock ≠ some g := fun e => by
  rcases h.2 with ⟨rfl, _⟩ | ⟨g', cap, cur, rfl, _, hg, _⟩
  · cases e
  · obtain rfl : g' = g := by injection e
    unfold Blk at hb
    rw [hb] at hg
    injection hg with hg
    injection hg with h1 h2
    exact hE h2.symm
set_option maxRecDepth 20000 in
set_option maxHeartbeats 4000000 in
theorem ewrite_any (x0 x1 x2 x3 o : Int) (w : World) (hok : entOk (x0, x1, x2, x3) o = true) :
    Calls Tryz.prog 86 #[.agg #[.int .i64 x0, .int .i64 x1, .int .i64 x2, .int .i64 x3], .int .i64 o] w fun e w' => ∃ a c, e = .returned (.tuple #[.slice a 12 c, .bool true]) ∧ w'.ownsRow w.heap.size 5 1 (.slice a 12 c) 12 (ints .u8 (entW (x0, x1, x2, x3) o)) ∧ Below w.heap.size w w' := by
  obtain ⟨i0, hi, hz0, hz1, hz2⟩ := info_parts infoBB
  unfold entOk at hok
  simp only [Bool.and_eq_true] at hok
  obtain ⟨W1, hW1, bA, bB, hb1, s1⟩ := two_boxes w 62 #[.int .i64 x0, .int .i64 x1, .int .i64 x2, .int .i64 x3] 197 #[.int .i64 2, .int .i64 2, .int .i64 4, .int .i64 4]
  have hok' := Lib.hid hok
  have bA' := Lib.hid bA
  have bB' := Lib.hid bB
  have hb1' := Lib.hid hb1
  have hW1' := Lib.hid hW1
  clear hok bA bB hb1 hW1
  go_enter Tryz.func86, Tryz.ntmps86
  go_wp2_with fail
  rw [hW1'.out]
  go_loopw [6, 22] (fun v iv wr => ∃ (k : Int) (a : Option Addr) (c : Nat), (k = 0 ∨ k = 1 ∨ k = 2 ∨ k = 3 ∨ k = 4) ∧ iv = .int .i64 k ∧ v = .slice a (lenE k) c ∧ Hid (wr.ownsRow w.heap.size 5 1 (.slice a (lenE k) c) (lenE k) (ints .u8 (preE (x0, x1, x2, x3) o k))) ∧ Hid (Blk wr (w.heap.size + 1) 197 #[.int .i64 2, .int .i64 2, .int .i64 4, .int .i64 4]) ∧ Hid (Below w.heap.size w wr)) (fun _ iv _ => 4 - (intOf iv).toNat)
  case atStart => exact ⟨0, none, 0, .inl rfl, rfl, rfl, Lib.hid (own_nil _ _ _ _), bB', hb1'⟩
  clear bB'
  case round =>
    obtain ⟨k, a, c, hk, rfl, rfl, ho, bB, hb⟩ := hrel
    have ho := ho.out
    have bB := bB.out
    have hb := hb.out
    rcases hk with rfl | rfl | rfl | rfl | rfl
    ·
      have hX : ∀ W, (Instr.index 197 (.agg #[.int .i64 x0, .int .i64 x1, .int .i64 x2, .int .i64 x3]) (.int .i64 0)).run Tryz.prog W = .ok (.int .i64 x0) W := fun W => by kernel_rfl
      have hP := fun W => put_any x0 2 o W
      have hpk : putOk x0 2 o = true := by simp only [hok'.out]
      have hpl := putS_length hpk
      simp only [hpk] at hP
      have hpe : preE (x0, x1, x2, x3) o (0 + 1) = preE (x0, x1, x2, x3) o 0 ++ putS x0 2 o := by simp [preE, entW]
      obtain ⟨by_, hby⟩ : ∃ b, putS x0 2 o = b := ⟨_, rfl⟩
      rw [hby] at hpl hpe
      simp only [hby] at hP
      have c7 : wr.cell? ⟨w.heap.size + 1, 0, none⟩ = some (.int .i64 2) := bB.cell rfl
      have hle : lenE 0 = 0 := by simp [lenE]
      rw [hle] at ho ⊢
      have hP' := Lib.hid hP
      have hpk' := Lib.hid hpk
      have hpe' := Lib.hid hpe
      have hby' := Lib.hid hby
      have bB' := Lib.hid bB
      have hb' := Lib.hid hb
      clear hP hpk hpe hby bB hb
      go_wp2_with fail
      refine (hP'.out _).mono ?_
      rintro e w2 ⟨a2, m2, c2, rfl, ho2, hb2⟩
      have hbl2 : by_.length = m2 := (Sl.of_own ho2).1.ilen
      have hs2 := (Sl.of_own ho2).1
      obtain rfl : m2 = 2 := by rw [← hbl2, hpl]; rfl
      have ho1 := own_later ho hb2
      have bB2 := bB'.out.late hb2
      have hbw2 := hb'.out.trans (hb2.mono hb'.out.size)
      have hsz2 := hbw2.size
      clear c7 hbl2 hpl
      have hs2' := Lib.hid hs2
      have bB2' := Lib.hid bB2
      have hbw2' := Lib.hid hbw2
      have hb2' := Lib.hid hb2
      clear hs2 bB2 hbw2 hb2
      go_wp2_with (at_builtin; refine wpList_app rfl _ _ 30 rfl w.heap.size 5 i0 _ 1 1 Tryz.underlying30 hi hz0 hz1 hz2 rfl (by decide) _ 0 _ rfl ho1 a2 2 c2 (ints .u8 by_) rfl hs2'.out ints_one (by decide) (by decide) hsz2 ?_; intro a5 c5 w5 ob hb5 hg5; have Ob := Lib.hid ob; have Hb5 := Lib.hid (hbw2'.out.trans hb5); have BB5 := Lib.hid (bB2'.out.grown hg5 (own_ne_blk0 ho1 bB2'.out (by decide))); clear ob hb5 hg5)
      go_roundw
      case rel => exact ⟨0 + 1, a5, c5, by decide, rfl, rfl, Lib.hid (by rw [hpe'.out, ints_append]; exact Ob.out), BB5, Hb5⟩
      case measure => simp [intOf]
    ·
      have hX : ∀ W, (Instr.index 197 (.agg #[.int .i64 x0, .int .i64 x1, .int .i64 x2, .int .i64 x3]) (.int .i64 1)).run Tryz.prog W = .ok (.int .i64 x1) W := fun W => by kernel_rfl
      have hP := fun W => put_any x1 2 o W
      have hpk : putOk x1 2 o = true := by simp only [hok'.out]
      have hpl := putS_length hpk
      simp only [hpk] at hP
      have hpe : preE (x0, x1, x2, x3) o (1 + 1) = preE (x0, x1, x2, x3) o 1 ++ putS x1 2 o := by simp [preE, entW]
      obtain ⟨by_, hby⟩ : ∃ b, putS x1 2 o = b := ⟨_, rfl⟩
      rw [hby] at hpl hpe
      simp only [hby] at hP
      have c7 : wr.cell? ⟨w.heap.size + 1, 1, none⟩ = some (.int .i64 2) := bB.cell rfl
      have hle : lenE 1 = 2 := by simp [lenE]
      rw [hle] at ho ⊢
      have hP' := Lib.hid hP
      have hpk' := Lib.hid hpk
      have hpe' := Lib.hid hpe
      have hby' := Lib.hid hby
      have bB' := Lib.hid bB
      have hb' := Lib.hid hb
      clear hP hpk hpe hby bB hb
      go_wp2_with fail
      refine (hP'.out _).mono ?_
      rintro e w2 ⟨a2, m2, c2, rfl, ho2, hb2⟩
      have hbl2 : by_.length = m2 := (Sl.of_own ho2).1.ilen
      have hs2 := (Sl.of_own ho2).1
      obtain rfl : m2 = 2 := by rw [← hbl2, hpl]; rfl
      have ho1 := own_later ho hb2
      have bB2 := bB'.out.late hb2
      have hbw2 := hb'.out.trans (hb2.mono hb'.out.size)
      have hsz2 := hbw2.size
      clear c7 hbl2 hpl
      have hs2' := Lib.hid hs2
      have bB2' := Lib.hid bB2
      have hbw2' := Lib.hid hbw2
      have hb2' := Lib.hid hb2
      clear hs2 bB2 hbw2 hb2
      go_wp2_with (at_builtin; refine wpList_app rfl _ _ 30 rfl w.heap.size 5 i0 _ 1 1 Tryz.underlying30 hi hz0 hz1 hz2 rfl (by decide) _ 2 _ rfl ho1 a2 2 c2 (ints .u8 by_) rfl hs2'.out ints_one (by decide) (by decide) hsz2 ?_; intro a5 c5 w5 ob hb5 hg5; have Ob := Lib.hid ob; have Hb5 := Lib.hid (hbw2'.out.trans hb5); have BB5 := Lib.hid (bB2'.out.grown hg5 (own_ne_blk0 ho1 bB2'.out (by decide))); clear ob hb5 hg5)
      go_roundw
      case rel => exact ⟨1 + 1, a5, c5, by decide, rfl, rfl, Lib.hid (by rw [hpe'.out, ints_append]; exact Ob.out), BB5, Hb5⟩
      case measure => simp [intOf]
    ·
      have hX : ∀ W, (Instr.index 197 (.agg #[.int .i64 x0, .int .i64 x1, .int .i64 x2, .int .i64 x3]) (.int .i64 2)).run Tryz.prog W = .ok (.int .i64 x2) W := fun W => by kernel_rfl
      have hP := fun W => put_any x2 4 o W
      have hpk : putOk x2 4 o = true := by simp only [hok'.out]
      have hpl := putS_length hpk
      simp only [hpk] at hP
      have hpe : preE (x0, x1, x2, x3) o (2 + 1) = preE (x0, x1, x2, x3) o 2 ++ putS x2 4 o := by simp [preE, entW]
      obtain ⟨by_, hby⟩ : ∃ b, putS x2 4 o = b := ⟨_, rfl⟩
      rw [hby] at hpl hpe
      simp only [hby] at hP
      have c7 : wr.cell? ⟨w.heap.size + 1, 2, none⟩ = some (.int .i64 4) := bB.cell rfl
      have hle : lenE 2 = 4 := by simp [lenE]
      rw [hle] at ho ⊢
      have hP' := Lib.hid hP
      have hpk' := Lib.hid hpk
      have hpe' := Lib.hid hpe
      have hby' := Lib.hid hby
      have bB' := Lib.hid bB
      have hb' := Lib.hid hb
      clear hP hpk hpe hby bB hb
      go_wp2_with fail
      refine (hP'.out _).mono ?_
      rintro e w2 ⟨a2, m2, c2, rfl, ho2, hb2⟩
      have hbl2 : by_.length = m2 := (Sl.of_own ho2).1.ilen
      have hs2 := (Sl.of_own ho2).1
      obtain rfl : m2 = 4 := by rw [← hbl2, hpl]; rfl
      have ho1 := own_later ho hb2
      have bB2 := bB'.out.late hb2
      have hbw2 := hb'.out.trans (hb2.mono hb'.out.size)
      have hsz2 := hbw2.size
      clear c7 hbl2 hpl
      have hs2' := Lib.hid hs2
      have bB2' := Lib.hid bB2
      have hbw2' := Lib.hid hbw2
      have hb2' := Lib.hid hb2
      clear hs2 bB2 hbw2 hb2
      go_wp2_with (at_builtin; refine wpList_app rfl _ _ 30 rfl w.heap.size 5 i0 _ 1 1 Tryz.underlying30 hi hz0 hz1 hz2 rfl (by decide) _ 4 _ rfl ho1 a2 4 c2 (ints .u8 by_) rfl hs2'.out ints_one (by decide) (by decide) hsz2 ?_; intro a5 c5 w5 ob hb5 hg5; have Ob := Lib.hid ob; have Hb5 := Lib.hid (hbw2'.out.trans hb5); have BB5 := Lib.hid (bB2'.out.grown hg5 (own_ne_blk0 ho1 bB2'.out (by decide))); clear ob hb5 hg5)
      go_roundw
      case rel => exact ⟨2 + 1, a5, c5, by decide, rfl, rfl, Lib.hid (by rw [hpe'.out, ints_append]; exact Ob.out), BB5, Hb5⟩
      case measure => simp [intOf]
    ·
      have hX : ∀ W, (Instr.index 197 (.agg #[.int .i64 x0, .int .i64 x1, .int .i64 x2, .int .i64 x3]) (.int .i64 3)).run Tryz.prog W = .ok (.int .i64 x3) W := fun W => by kernel_rfl
      have hP := fun W => put_any x3 4 o W
      have hpk : putOk x3 4 o = true := by simp only [hok'.out]
      have hpl := putS_length hpk
      simp only [hpk] at hP
      have hpe : preE (x0, x1, x2, x3) o (3 + 1) = preE (x0, x1, x2, x3) o 3 ++ putS x3 4 o := by simp [preE, entW]
      obtain ⟨by_, hby⟩ : ∃ b, putS x3 4 o = b := ⟨_, rfl⟩
      rw [hby] at hpl hpe
      simp only [hby] at hP
      have c7 : wr.cell? ⟨w.heap.size + 1, 3, none⟩ = some (.int .i64 4) := bB.cell rfl
      have hle : lenE 3 = 8 := by simp [lenE]
      rw [hle] at ho ⊢
      have hP' := Lib.hid hP
      have hpk' := Lib.hid hpk
      have hpe' := Lib.hid hpe
      have hby' := Lib.hid hby
      have bB' := Lib.hid bB
      have hb' := Lib.hid hb
      clear hP hpk hpe hby bB hb
      go_wp2_with fail
      refine (hP'.out _).mono ?_
      rintro e w2 ⟨a2, m2, c2, rfl, ho2, hb2⟩
      have hbl2 : by_.length = m2 := (Sl.of_own ho2).1.ilen
      have hs2 := (Sl.of_own ho2).1
      obtain rfl : m2 = 4 := by rw [← hbl2, hpl]; rfl
      have ho1 := own_later ho hb2
      have bB2 := bB'.out.late hb2
      have hbw2 := hb'.out.trans (hb2.mono hb'.out.size)
      have hsz2 := hbw2.size
      clear c7 hbl2 hpl
      have hs2' := Lib.hid hs2
      have bB2' := Lib.hid bB2
      have hbw2' := Lib.hid hbw2
      have hb2' := Lib.hid hb2
      clear hs2 bB2 hbw2 hb2
      go_wp2_with (at_builtin; refine wpList_app rfl _ _ 30 rfl w.heap.size 5 i0 _ 1 1 Tryz.underlying30 hi hz0 hz1 hz2 rfl (by decide) _ 8 _ rfl ho1 a2 4 c2 (ints .u8 by_) rfl hs2'.out ints_one (by decide) (by decide) hsz2 ?_; intro a5 c5 w5 ob hb5 hg5; have Ob := Lib.hid ob; have Hb5 := Lib.hid (hbw2'.out.trans hb5); have BB5 := Lib.hid (bB2'.out.grown hg5 (own_ne_blk0 ho1 bB2'.out (by decide))); clear ob hb5 hg5)
      go_roundw
      case rel => exact ⟨3 + 1, a5, c5, by decide, rfl, rfl, Lib.hid (by rw [hpe'.out, ints_append]; exact Ob.out), BB5, Hb5⟩
      case measure => simp [intOf]
    · have e12 : lenE 4 = 12 := by decide
      rw [e12] at ho ⊢
      have bB' := Lib.hid bB
      have hb' := Lib.hid hb
      clear bB hb
      go_wp2_with fail
      refine bodyPost_ret (results_tmp2 rfl _ _ _) rfl ?_
      exact ⟨a, c, rfl, by simpa [preE] using ho, hb'.out⟩
end Go.Proofs.YtilennmeiaehnaaGreat
