/- Chapter 21: has a directory a shape; the chain of shapes; check: plain. | copy, append of zeros, overlaps: of elements of more cells. | Boxes: a few blocks laid one behind the other: of whatever program. | Chapter 21: a tree's bytes: plain words; the writer in memory. -/
import Derived.Test.YtceclmpmpldmlaaGreatCs12
import Derived.Test.YtceclmpmpldmlaaGreatCs09
import Derived.Laws.CopyOwn
import Derived.Lib.SliceRun
import Derived.Lib.AppendZeros
import Derived.Lib.AppendZerosOnto
import Derived.Lib.Overlaps
import Derived.Deep.RegionLaw
import Derived.Test.YtceclmpmpldmlaaGreatCs01
import Derived.Test.YtceclmpmpldmlaaGreatCs00
import Derived.Test.YtceclmpmpldmlaaGreatCs03
import Derived.Test.YtceclmpmpldmlaaGreatCs07
namespace Go.Proofs.YtceclmpmpldmlaaGreat
open Go.RowKit Tt
set_option linter.unusedVariables false
set_option linter.unusedSimpArgs false

theorem rng_no {n k : Nat} {p : Nat → Bool} (hk : k < n) (h : p k = false) : (List.range n).all p = false := by
  cases hh : (List.range n).all p with
  | false => rfl
  | true => rw [List.all_eq_true.1 hh k (List.mem_range.2 hk)] at h; exact absurd h (by decide)
theorem rng_yes {n : Nat} {p : Nat → Bool} (h : ∀ k, k < n → p k = true) : (List.range n).all p = true := List.all_eq_true.2 fun k hk => h k (List.mem_range.1 hk)
def tg0 : Tgs := (0, 0, 0, [])
def dirZ : (f : Nat) → DirT f
  | 0 => ()
  | _ + 1 => ([], [], [])
def tgB (s : Shp) (ts : List Tgs) (k : Nat) : Bool :=
  tagB (ts.getD k tg0).1 && (decide (k = 0) || decide ((ts.getD (k - 1) tg0).1 < (ts.getD k tg0).1)) && !ownP s (ts.getD k tg0).1 && okT (ts.getD k tg0)
/-- the shape that a link of a shape leads to -/
def subI (s : Shp) (t : Int) : Int := (s.1.getD (fst (fun y => y.1 == t) s.1).toNat (0, 0)).2
def sbB {f : Nat} (has : DirT f → Int → Bool) (s : Shp) (ss : List (Int × DirT f)) (k : Nat) : Bool :=
  linkP s (ss.getD k (0, dirZ f)).1 && (decide (k = 0) || decide ((ss.getD (k - 1) (0, dirZ f)).1 < (ss.getD k (0, dirZ f)).1)) && has (ss.getD k (0, dirZ f)).2 (subI s (ss.getD k (0, dirZ f)).1)
def ownB (s : Shp) (d : List Tgs) : Bool := (List.range d.length).all (tgB s d)
def hasH (s : Shp) (e b : Nat) : Bool := decide (1 ≤ e) && decide (e ≤ 65535) && (decide (b = 0) || !decide (s.2.1 = 0))
def hasS (L : List Shp) : (f : Nat) → DirT f → Int → Bool
  | 0, _, _ => false
  | f + 1, d, i => hasH (L.getD i.toNat shp0) (entN d.1.length d.2.1.length d.2.2.length) d.2.2.length && ownB (L.getD i.toNat shp0) d.1 &&
      (List.range d.2.1.length).all (sbB (hasS L f) (L.getD i.toNat shp0) d.2.1)
theorem hasS_succ (L : List Shp) (f : Nat) (d : DirT (f + 1)) (i : Int) : hasS L (f + 1) d i =
    (hasH (L.getD i.toNat shp0) (entN d.1.length d.2.1.length d.2.2.length) d.2.2.length && ownB (L.getD i.toNat shp0) d.1 && (List.range d.2.1.length).all (sbB (hasS L f) (L.getD i.toNat shp0) d.2.1)) := rfl
/-- the shapes of the chain -/
def nxtS (L : List Shp) : Nat → Int
  | 0 => 0
  | k + 1 => (L.getD (nxtS L k).toNat shp0).2.2.2
def chainB (L : List Shp) (n : Nat) : Bool := (List.range n).all fun k => decide (0 ≤ nxtS L k)
def hasAll (L : List Shp) (f : Nat) (ds : List (DirT f)) : Bool := (List.range ds.length).all fun k => hasS L f (ds.getD k (dirZ f)) (nxtS L k)
def checkS (f : Nat) (o : Int) (ds : List (DirT f)) (L : List Shp) : Int :=
  if (shapesB L && (decide (o = 1) || decide (o = 2)) && !decide (ds.length = 0)) = true then
    if chainB L ds.length = true then
      if hasAll L f ds = true then (if longT f ds = 0 then 7 else 0) else 6
    else 1
  else 1
theorem shapesB_get {L : List Shp} (h : shapesB L = true) {i : Nat} (hi : i < L.length) : shapeB L.length i (L.getD i shp0) = true := by
  unfold shapesB at h; simp only [Bool.and_eq_true] at h; exact List.all_eq_true.1 h.2 i (List.mem_range.2 hi)
theorem shapesB_len {L : List Shp} (h : shapesB L = true) : 1 ≤ L.length ∧ L.length ≤ 16 := by
  unfold shapesB at h; simp only [Bool.and_eq_true, decide_eq_true_eq] at h; exact h.1
theorem shapeB_next {n i : Nat} {s : Shp} (h : shapeB n i s = true) : s.2.2.2 = -1 ∨ ((i : Int) < s.2.2.2 ∧ s.2.2.2 < n) := by
  unfold shapeB nextB lateB at h; simp only [Bool.and_eq_true, Bool.or_eq_true, decide_eq_true_eq] at h; exact h.1.2
theorem shapeB_lk {n i k : Nat} {s : Shp} (h : shapeB n i s = true) (hk : k < s.1.length) : linkB n i s k = true := by
  unfold shapeB at h; simp only [Bool.and_eq_true] at h; exact List.all_eq_true.1 h.1.1 k (List.mem_range.2 hk)
theorem linkB_late {n i k : Nat} {s : Shp} (h : linkB n i s k = true) : (i : Int) < (s.1.getD k (0, 0)).2 ∧ (s.1.getD k (0, 0)).2 < n := by
  unfold linkB lateB at h; simp only [Bool.and_eq_true, decide_eq_true_eq] at h; exact h.1.2
theorem shapeB_pair {n i : Nat} {s : Shp} (h : shapeB n i s = true) : (s.2.1 = 0 ∧ s.2.2.1 = 0) ∨ (1 ≤ s.2.1 ∧ s.2.1 < s.2.2.1 ∧ s.2.2.1 < 65536) := by
  unfold shapeB blobB tagB at h; simp only [Bool.and_eq_true, Bool.or_eq_true, decide_eq_true_eq] at h
  omega
theorem nxt_lt {L : List Shp} (h : shapesB L = true) : ∀ k, nxtS L k < L.length ∧ -1 ≤ nxtS L k := by
  have hl := shapesB_len h; intro k
  induction k with
  | zero => unfold nxtS; omega
  | succ k ih =>
    unfold nxtS; have := shapeB_next (shapesB_get h (i := (nxtS L k).toNat) (by omega))
    omega
theorem chainB_step {L : List Shp} {n : Nat} : chainB L (n + 1) = (chainB L n && decide (0 ≤ nxtS L n)) := by
  unfold chainB; rw [List.range_succ, List.all_append]
  simp
theorem chainB_no {L : List Shp} {n k : Nat} (hk : k < n) (h : nxtS L k < 0) : chainB L n = false := rng_no hk (by simp; omega)
theorem fst_bounds {α : Type} {p : α → Bool} {l : List α} : -1 ≤ fst p l ∧ fst p l < l.length := by
  unfold fst
  cases h : l.findIdx? p with
  | none => simp; omega
  | some i =>
    simp only; have := List.findIdx?_eq_some_iff_getElem.1 h; obtain ⟨h1, _⟩ := this
    omega
theorem subI_ok {L : List Shp} {i : Nat} {t : Int} (h : shapesB L = true) (hi : i < L.length) (hl : linkP (L.getD i shp0) t = true) : (i : Int) < subI (L.getD i shp0) t ∧ subI (L.getD i shp0) t < L.length := by
  have hs := shapesB_get h hi; have hb := fst_bounds (p := fun (y : Lk) => y.1 == t) (l := (L.getD i shp0).1); have ha := fst_any (p := fun (y : Lk) => y.1 == t) (l := (L.getD i shp0).1); unfold linkP at hl; rw [hl, decide_eq_true_eq] at ha; have := linkB_late (shapeB_lk hs (k := (fst (fun (y : Lk) => y.1 == t) (L.getD i shp0).1).toNat) (by omega)); exact this
theorem ownP_prog {n i : Nat} {s : Shp} (h : shapeB n i s = true) (t : Int) : ((decide (0 < s.2.1) && (t == s.2.1 || t == s.2.2.1)) || s.1.any fun y => y.1 == t) = ownP s t := by
  unfold ownP linkP pairP; rw [Bool.or_comm]
  congr 1
end Go.Proofs.YtceclmpmpldmlaaGreat

namespace Tt
open Go Go.RowKit
set_option linter.unusedVariables false
set_option linter.unusedSimpArgs false

section
variable {P : Program}
theorem run_copy_sz (w : World) (dT sT ty elem : TypeId) (sz g o dLen dCap : Nat) (a : Addr) (sLen sCap : Nat) (cur : Array Value) (t : TypeId) (cs : List Value)
    (hu : P.underlying dT = some (.slice elem)) (hs : (P.info? elem).map (·.size) = some sz)
    (hg : w.heap[g]? = some (.cells cur t (0, 0))) (hn : cs.length = Nat.min sLen dLen * sz)
    (hsrc : ∀ j v, cs[j]? = some v → w.cell? (a.add j) = some v) (hfit : o + cs.length ≤ cur.size) (h1 : ∀ v ∈ cs, v.oneCell' = true) :
    (Builtin.copy_ #[dT, sT] ty #[.slice (some ⟨g, o, none⟩) dLen dCap, .slice (some a) sLen sCap]).run P w =
      .ok (goInt (Nat.min sLen dLen : Nat)) (w.setRow g (splice cur.toList o cs).toArray) := by
  have hl := run_loadCells_list (P := P) w a cs hsrc; have hst := run_storeCells_at P g o t cs 0 cur w hg (by simpa using hfit) h1; rw [hn] at hl
  cases hq : P.info? elem with
  | none => simp [hq] at hs
  | some i =>
    have hi : i.size = sz := by simpa [hq] using hs
    simp only [Nat.min_def] at hl hn ⊢
    simp [Builtin.copy_, run_underlying hu, Builtin.lenOf, Builtin.firstCells, Go.sizeOf, typeInfo, hq, hi, hl, hst, Nat.min_def, splice]
theorem wp_copy_run (w : World) {o : Oper} {a : Act} {K : Act → World → Prop} {Q : Exit → Act → World → Prop} (d s : Operand) (t t' : TypeId)
    (ho : o.op = .call { callee := .builtin .copy, args := #[d, s], argTypes := #[t, t'] }) (v u : Value) (hd : a.eval d = v) (hs : a.eval s = u) {v' : Value} {w' : World}
    (hr : (Builtin.copy_ #[t, t'] o.type #[v, u]).run P w = .ok v' w') (h : K (a.put o.dst v') w') : o.wp P a w K Q := by
  unfold Oper.wp execOp; simp only [ho, resolve, invoke, builtin, Sem.run_bind, Sem.run_pure, Result.andThen_ok, List.map_toArray, List.map_cons, List.map_nil, hd, hs, hr]; exact h
theorem wpList_copy_run (w : World) {ops : Array Oper} {rest : List Oper} {o : Oper} {a : Act} {Q : Exit → Act → World → Prop} (hgd : o.guard = none) (d s : Operand) (t t' : TypeId)
    (ho : o.op = .call { callee := .builtin .copy, args := #[d, s], argTypes := #[t, t'] }) (v u : Value) (hd : a.eval d = v) (hs : a.eval s = u) {v' : Value} {w' : World}
    (hr : (Builtin.copy_ #[t, t'] o.type #[v, u]).run P w = .ok v' w') (h : wpList P ops Q rest (a.put o.dst v') w') : wpList P ops Q (o :: rest) a w :=
  wpList_plain hgd fun _ hK => wp_copy_run w d s t t' ho v u hd hs hr (hK _ _ h)
end
theorem own_of_block {w : World} {B g : Nat} {E : TypeId} {sz n c : Nat} {cur : Array Value} {xs : List Value} (hb : Blk w g E cur) (hB : B ≤ g) (hn : n ≤ c) (hc : c ≤ maxLen) (hs : cur.size = c * sz) (ht : cur.toList.take (n * sz) = xs) : w.ownsRow B E sz (.slice (some ⟨g, 0, none⟩) n c) n xs := by
  refine ⟨?_, .inr ⟨g, c, cur, rfl, hB, hb, hn, hc, hs, ht⟩⟩; rw [← ht, List.length_take, Array.length_toList, hs]; have := Nat.mul_le_mul_right sz hn
  omega
section
variable {P : Program} {T E : TypeId} {sz : Nat} (ht : P.underlying T = some (.slice E)) (hE : ∀ w, (Go.sizeOf E).run P w = .ok sz w)
include ht hE
end
end Tt

namespace Tt
open Go Go.RowKit
theorem three_boxes (w : World) (T : TypeId) (a : Array Value) (U : TypeId) (b : Array Value) (V : TypeId) (c : Array Value) : ∃ WC, ((w.alloc (.cells a T)).alloc (.cells b U)).alloc (.cells c V) = WC ∧ Blk WC w.heap.size T a ∧ Blk WC (w.heap.size + 1) U b ∧ Blk WC (w.heap.size + 2) V c ∧ Below w.heap.size w WC ∧ WC.heap.size = w.heap.size + 3 := by
  have hA := Blk.new w T a; have hB := Blk.new (w.alloc (.cells a T)) U b; have hC := Blk.new ((w.alloc (.cells a T)).alloc (.cells b U)) V c; rw [show (w.alloc (.cells a T)).heap.size = w.heap.size + 1 by simp] at hB; rw [show ((w.alloc (.cells a T)).alloc (.cells b U)).heap.size = w.heap.size + 2 by simp] at hC; exact ⟨_, rfl, (hA.alloc _).alloc _, hB.alloc _, hC, (((Below.refl w.heap.size w).alloc (Nat.le_refl _) _).alloc (by simp) _).alloc (by simp <;> omega) _, by simp⟩
theorem two_boxes (w : World) (T : TypeId) (a : Array Value) (U : TypeId) (b : Array Value) : ∃ WC, (w.alloc (.cells a T)).alloc (.cells b U) = WC ∧ Blk WC w.heap.size T a ∧ Blk WC (w.heap.size + 1) U b ∧ Below w.heap.size w WC ∧ WC.heap.size = w.heap.size + 2 := by
  have hA := Blk.new w T a; have hB := Blk.new (w.alloc (.cells a T)) U b; rw [show (w.alloc (.cells a T)).heap.size = w.heap.size + 1 by simp] at hB; exact ⟨_, rfl, hA.alloc _, hB, ((Below.refl w.heap.size w).alloc (Nat.le_refl _) _).alloc (by simp) _, by simp⟩
/-- worlds in which no old block but one has turned -/
theorem but_worlds (b : Nat) (w : World) : ∃ (S : Type) (f : S → World), Nonempty S ∧ (∀ s, But b w (f s)) ∧ ∀ W, But b w W → ∃ s, W = f s :=
  ⟨{W : World // But b w W}, Subtype.val, ⟨⟨w, But.refl b w⟩⟩, fun s => s.2, fun W h => ⟨⟨W, h⟩, rfl⟩⟩
theorem Blk.but_ {w w' : World} {b k : Nat} {T : TypeId} {cs : Array Value} (h : But b w w') (hb : Blk w k T cs) (hk : k ≠ b) : Blk w' k T cs := (h.block k hb.lt hk).trans hb
end Tt

namespace Go.Proofs.YtceclmpmpldmlaaGreat
open Go.RowKit Tt
set_option linter.unusedVariables false
set_option linter.unusedSimpArgs false

/-- a value's bytes in an order -/
def bytesV (x : Tgs) (o : Int) : List Int := if mayS x.2.1 x.2.2.1 x.2.2.2 = true then turnS x.2.2.2 (kindS x.2.1).2.1 o else []
def padB (b : List Int) : List Int := b ++ List.replicate (4 - b.length) 0
/-- is a value within its entry? -/
def eofB (tag : Int) (b : List Int) (o : Int) : Bool := putOk tag 2 o && decide (b.length ≠ 0) && decide (b.length ≤ 4)
def entW (x : Ent) (o : Int) : List Int := putS x.1 2 o ++ putS x.2.1 2 o ++ putS x.2.2.1 4 o ++ putS x.2.2.2 4 o
def entOk (x : Ent) (o : Int) : Bool := putOk x.1 2 o && putOk x.2.1 2 o && putOk x.2.2.1 4 o && putOk x.2.2.2 4 o
def atP (what no tag : Int) (s : Spt) : Bool := s.1 == what && s.2.1 == no && s.2.2.1 == tag
def atS (l : List Spt) (what no tag : Int) : Int := match l.find? (atP what no tag) with
  | some s => s.2.2.2.1
  | none => 0
/-- there is such a spot, and room there -/
def Fits (l : List Spt) (n : Nat) (what no tag : Int) (m : Nat) : Prop := (l.any (atP what no tag) = true) ∧ 0 ≤ atS l what no tag ∧ (atS l what no tag).toNat + m ≤ n
abbrev Pt := Nat × List Int
def apP (ps : List Pt) (b : List Int) : List Int := ps.foldl (fun b p => splice b p.1 p.2) b
theorem apP_append (p q : List Pt) (b : List Int) : apP (p ++ q) b = apP q (apP p b) := by unfold apP; rw [List.foldl_append]
theorem splice_len {b by_ : List Int} {i : Nat} (h : i + by_.length ≤ b.length) : (splice b i by_).length = b.length := by unfold splice; simp; omega
def inlV (x : Tgs) (o : Int) : Bool := eofB x.1 (bytesV x o) o
def entT (l : List Spt) (o no : Int) (x : Tgs) : Ent := (x.1, x.2.1, x.2.2.1, if inlV x o = true then getV (padB (bytesV x o)) 0 4 o else atS l 3 no x.1)
def patV (l : List Spt) (o no : Int) (x : Tgs) : List Pt := if inlV x o = true then [] else [((atS l 3 no x.1).toNat, bytesV x o)]
theorem find_any {α : Type} {p : α → Bool} {l : List α} (h : l.any p = true) : ∃ s, l.find? p = some s ∧ l[(fst p l).toNat]? = some s ∧ 0 ≤ fst p l := by
  induction l with
  | nil => cases h
  | cons x r ih =>
    cases hx : p x with
    | true =>
      have hf : fst p (x :: r) = 0 := fst_at (k := 0) (by simp) (by simpa using hx) (fun i hi => by omega); exact ⟨x, by simp [List.find?, hx], by rw [hf]; rfl, by rw [hf]; decide⟩
    | false =>
      have hr : r.any p = true := by simpa [hx] using h
      obtain ⟨s, h1, h2, h3⟩ := ih hr
      have hf : fst p (x :: r) = fst p r + 1 := by
        unfold fst at h3 ⊢; rw [List.findIdx?_cons, hx]
        cases hh : r.findIdx? p with
        | none => rw [hh] at h3; simp at h3
        | some i => simp
      refine ⟨s, by simp [List.find?, hx, h1], ?_, by omega⟩; rw [hf, show (fst p r + 1).toNat = (fst p r).toNat + 1 by omega]; exact h2
/-- what a writer is made of -/
structure Wc where
  gw : Nat
  gb : Nat
  n : Nat
  o : Int
  spa : Option Addr
  spn : Nat
  spc : Nat
  l : List Spt
  qa : Option Addr
  qn : Nat
  qc : Nat
  sb : Nat
structure WrS (K : Wc) (w : World) (no : Int) (P : List Int) : Prop where
  blk : Blk w K.gw 91 #[.slice (some ⟨K.gb, 0, none⟩) K.n K.n, .int .i64 K.o, .slice K.spa K.spn K.spc, .slice K.qa K.qn K.qc, .int .i64 no]
  row : Row w K.gb 5 .u8 P
  len : P.length = K.n
  sp : Sl w K.spa K.spn K.spc 5 (fl spC K.l)
  spne : ∀ x, K.spa = some x → x.block ≠ K.gw ∧ x.block ≠ K.gb
  ne : K.gw ≠ K.gb
  splt : ∀ x, K.spa = some x → x.block < K.sb
  sble : K.sb ≤ w.heap.size
abbrev nilV : Value := .slice none 0 0
theorem sl_eqs {w w' : World} {a : Option Addr} {n c sz : Nat} {cs : List Value} (h : Sl w a n c sz cs) (hs : w.heap.size ≤ w'.heap.size) (hb : ∀ x, a = some x → x.block < w.heap.size → w'.heap[x.block]? = w.heap[x.block]?) : Sl w' a n c sz cs :=
  ⟨h.len, h.le, h.max, fun i hi => by
    obtain ⟨g, off, e, hlt, hc⟩ := h.lies i hi; refine ⟨g, off, e, Nat.lt_of_lt_of_le hlt hs, fun j v hv => ?_⟩; have h1 := hc j v hv; have h2 := hb _ e hlt; unfold World.cell? at h1 ⊢; rw [h2]; exact h1, h.fit⟩
theorem WrS.later {K : Wc} {w w' : World} {no : Int} {P : List Int} (h : WrS K w no P) (hb : Below w.heap.size w w') : WrS K w' no P :=
  ⟨h.blk.late hb, Blk.late (T := 5) h.row hb, h.len, h.sp.mono hb, h.spne, h.ne, h.splt, Nat.le_trans h.sble hb.size⟩
theorem WrS.no {K : Wc} {w : World} {no : Int} {P : List Int} (h : WrS K w no P) (m : Int) : WrS K (w.setCell ⟨K.gw, 4, none⟩ (.int .i64 m)) m P ∧ Mv K.gw K.gb nilV nilV w (w.setCell ⟨K.gw, 4, none⟩ (.int .i64 m)) := by
  have hbt := (But.refl K.gw w).set 4 (.int .i64 m); exact ⟨⟨h.blk.set 4 _, (hbt.block _ (Row.lt h.row) (Ne.symm h.ne)).trans h.row, h.len, sl_eqs h.sp hbt.size (fun x e hx => hbt.block _ hx (h.spne x e).1), h.spne, h.ne, h.splt, Nat.le_trans h.sble hbt.size⟩, Mv.of_but hbt (.inl rfl)⟩
theorem low_at {P : Program} {T E : TypeId} (ht : P.underlying T = some (.slice E)) (hE : ∀ w, (Go.sizeOf E).run P w = .ok 1 w) (g n q : Nat) (h : q < n) (W : World) :
    (Instr.sliceAt T (.slice (some ⟨g, 0, none⟩) n n) (some (.int .i64 (q : Int))) none none).run P W = .ok (.slice (some ⟨g, q, none⟩) (n - q) (n - q)) W := by
  have he : P.elem T = E := by unfold Program.elem; rw [ht]
  rw [run_sliceAt_slice (h := by rw [he]; exact ht), run_slice_l (ht := by rw [he]; exact ht) (h0 := by omega) (h1 := by omega), he, hE]; simp only [Result.andThen, sliced]; have e2 : ¬ n = q := by omega
  simp [e2, Addr.add]
  omega
theorem sizeB : ∀ w, (Go.sizeOf 5).run Tryz.prog w = .ok 1 w := fun w => by kernel_rfl
/-- bytes are copied into the page -/
theorem page_copy {K : Wc} {w : World} {no : Int} {P : List Int} (h : WrS K w no P) (ba : Option Addr) (bm bc : Nat) (by_ : List Int) (hs : Sl w ba bm bc 1 (ints .u8 by_)) (q : Nat) (h1 : 1 ≤ bm) (hq : q + bm ≤ K.n) (ty : TypeId) :
    ∃ w', (Builtin.copy_ #[24, 24] ty #[.slice (some ⟨K.gb, q, none⟩) (K.n - q) (K.n - q), .slice ba bm bc]).run Tryz.prog w = .ok (goInt (bm : Nat)) w' ∧ WrS K w' no (splice P q by_) ∧ Mv K.gw K.gb nilV nilV w w' ∧ But K.gb w w' := by
  have hbl : by_.length = bm := hs.ilen; obtain ⟨b, off, e, hlt, hc⟩ := hs.lies 0 (by omega); subst e; have hmin : Nat.min bm (K.n - q) = bm := by simp [Nat.min_def]; omega
  have hsz : (Tryz.prog.info? 5).map (·.size) = some 1 := by kernel_rfl
  have hr := run_copy_sz (P := Tryz.prog) w 24 24 ty 5 1 K.gb q (K.n - q) (K.n - q) ⟨b, off, none⟩ bm bc (ints .u8 P).toArray 5 (ints .u8 by_) Tryz.underlying24 hsz h.row (by rw [hmin, ints_len, hbl, Nat.mul_one]) (fun j v hv => by rw [Addr.add_lit]; exact hc j v hv) (by rw [ints_len, hbl]; simp [ints_len, h.len]; omega) ints_one; rw [hmin] at hr; refine ⟨_, hr, ?_, ?_, ⟨rfl, rfl, rfl, by simp [World.setRow], fun k hk h2 => setRow_other w K.gb k _ h2⟩⟩
  · have ho : ∀ k, k ≠ K.gb → (w.setRow K.gb (splice (ints .u8 P).toArray.toList q (ints .u8 by_)).toArray).heap[k]? = w.heap[k]? := fun k hk => setRow_other w K.gb k _ hk
    refine ⟨(ho _ h.ne).trans h.blk, ?_, by rw [splice_len (by rw [hbl, h.len]; exact hq)]; exact h.len, ?_, h.spne, h.ne, h.splt, by simp [World.setRow]; exact h.sble⟩
    · have := setRow_heap w K.gb (ints .u8 P).toArray (splice (ints .u8 P).toArray.toList q (ints .u8 by_)).toArray 5 (0, 0) h.row
      unfold Row; rw [this]; have e : (ints .u8 P).toArray.toList = ints .u8 P := by simp
      rw [e, ints_splice]
    · exact sl_eqs h.sp (by simp [World.setRow]) (fun x e hx => ho _ (h.spne x e).2)
  · exact ⟨rfl, rfl, rfl, by simp [World.setRow], fun k hk h2 h3 _ => setRow_other w K.gb k _ h3, fun _ h => .inl h⟩
theorem Mv.blk {g gt : Nat} {w w' : World} {k : Nat} {T : TypeId} {cs : Array Value} (h : Mv g gt nilV nilV w w') (hb : Blk w k T cs) (h1 : k ≠ g) (h2 : k ≠ gt) : Blk w' k T cs := (h.block k hb.lt h1 h2 (by intro e; cases e)).trans hb
theorem Mv.own {g gt : Nat} {w w' : World} {B : Nat} {E : TypeId} {sz n : Nat} {v : Value} {xs : List Value} (h : Mv g gt nilV nilV w w') (ho : w.ownsRow B E sz v n xs) (h1 : v.ownBlock ≠ some g) (h2 : v.ownBlock ≠ some gt) : w'.ownsRow B E sz v n xs := by
  obtain ⟨hl, hr⟩ := ho; refine ⟨hl, ?_⟩
  rcases hr with hn | ⟨b, cap, cur, rfl, hB, hg, r⟩
  · exact .inl hn
  · exact .inr ⟨b, cap, cur, rfl, hB, (h.block b (Array.getElem?_eq_some_iff.1 hg).1 (fun e => h1 (by rw [← e]; rfl)) (fun e => h2 (by rw [← e]; rfl)) (by intro e; cases e)).trans hg, r⟩
/-- another block has turned -/
theorem WrS.but {K : Wc} {w w' : World} {no : Int} {P : List Int} {g : Nat} (h : WrS K w no P) (hb : But g w w') (h1 : g ≠ K.gw) (h2 : g ≠ K.gb) (h3 : K.sb ≤ g) : WrS K w' no P :=
  ⟨Blk.but_ hb h.blk (Ne.symm h1), (hb.block _ (Row.lt h.row) (Ne.symm h2)).trans h.row, h.len, sl_eqs h.sp hb.size (fun x e hx => hb.block _ hx (by have := h.splt x e; omega)), h.spne, h.ne, h.splt, Nat.le_trans h.sble hb.size⟩
theorem Mv.new {g gt b : Nat} {w w1 w2 : World} (h : Mv g gt nilV nilV w w1) (hb : But b w1 w2) (h1 : w.heap.size ≤ b) : Mv g gt nilV nilV w w2 :=
  ⟨hb.os.trans h.os, hb.tape.trans h.tape, hb.output.trans h.output, Nat.le_trans h.size hb.size, fun k hk h2 h3 h4 => (hb.block k (Nat.lt_of_lt_of_le hk h.size) (by omega)).trans (h.block k hk h2 h3 h4), fun _ e => by cases e⟩
end Go.Proofs.YtceclmpmpldmlaaGreat
