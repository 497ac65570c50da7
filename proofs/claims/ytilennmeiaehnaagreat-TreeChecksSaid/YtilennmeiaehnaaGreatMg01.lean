/- Steps of a region that draws its order: append onto an owned row; a row that is written in two places. | A drawn region whose first operations only read, the last ones in one forced order: one walk. | A block of cells that is known whole (a struct variable). | Only one of the old blocks has turned. | Sub-slices, with what block they lie in; stores. -/
import Derived.Test.YtilennmeiaehnaaGreatMg00
import Derived.Deep.RegionLaw
import Derived.Deep.CutRange
import Derived.Deep.Cut
import Derived.BigRegion
import Derived.StillTail
import Derived.StillTailTactics
import Derived.BigQuiet
import Derived.Laws.ResultCell
import Derived.Laws.Rows
namespace Tt
open Go Go.RowKit
set_option linter.unusedVariables false
set_option linter.unusedSimpArgs false

section
variable {P : Program} {w : World} {ops : Array Oper} {o : Oper} {a : Act} {K : Act → World → Prop} {Q : Exit → Act → World → Prop} {G : Prop}
/-- 'append(s, x...)' onto what the call owns, as a step of a region that draws. -/
theorem step_app (hgd : o.guard = none) (s x : Operand) (t : TypeId)
    (ho : o.op = .call { callee := .builtin .append, args := #[s, x], argTypes := #[t, t] })
    (base : Nat) (e : TypeId) (i : TypeInfo) (z : Value) (size bytes : Nat) (ht : P.underlying t = some (.slice e)) (hi : P.info? e = some i) (hz : i.zero = some z)
    (hsize : i.size = size) (hby : i.bytes = bytes) (hzs : z.cells.size = size) (hsz : 0 < size)
    (v : Value) (n : Nat) (xs : List Value) (hs : a.eval s = v) (hown : w.ownsRow base e size v n xs)
    (xa : Option Addr) (m c : Nat) (news : List Value) (hx : a.eval x = .slice xa m c) (hS : Sl w xa m c size news) (h1 : ∀ u ∈ news, u.oneCell' = true)
    (hbytes : (n + m) * bytes ≤ 140737488355328) (hb0 : 0 < bytes) (hbase : base ≤ w.heap.size)
    (h : ∀ (a' : Option Addr) (c' : Nat) (w' : World), w'.ownsRow base e size (.slice a' (n + m) c') (n + m) (xs ++ news) → Below base w w' → w.grownBy w' v.ownBlock → K (a.put o.dst (.slice a' (n + m) c')) w') :
    if Region.wanted o (yielded ops a.tmps) = true then Oper.wp P o a w K Q else G := by
  have hw : Region.wanted o (yielded ops a.tmps) = true := by simp [Region.wanted, hgd]
  rw [if_pos hw]
  have h63 : n + m ≤ maxLen := by
    have : (n + m) * 1 ≤ (n + m) * bytes := Nat.mul_le_mul_left _ hb0
    unfold maxLen; omega
  have hv' : ∀ (v' : Value) (w' : World), w'.ownsRow base e size v' (n + m) (xs ++ news) → ∃ (a' : Option Addr) (c' : Nat), v' = .slice a' (n + m) c' := by
    intro v' w' hw
    rcases hw.2 with ⟨rfl, h0⟩ | ⟨g, cap, cur, rfl, _⟩
    · exact ⟨none, 0, by rw [h0]⟩
    · exact ⟨_, _, rfl⟩
  cases xa with
  | none =>
    have hc := hS.fit rfl
    subst hc
    have hm : m = 0 := by have := hS.le; omega
    subst hm
    have hn0 : news = [] := List.eq_nil_of_length_eq_zero (by rw [hS.len]; simp)
    subst hn0
    rw [Nat.add_zero, List.append_nil] at h
    have hrun := run_append_owned_none (P := P) (w := w) base t o.type e i size ht hi v n xs hown
    obtain ⟨a', c', rfl⟩ := hv' v w (by simpa using hown)
    simp only [Nat.add_zero] at hrun hs hown h
    unfold Oper.wp
    simp [execOp, ho, resolve, invoke, builtin, hs, hx, hrun, Result.andThen]
    exact h _ _ w hown (Below.refl _ _) (World.grownBy.refl _ _)
  | some ad =>
    have hnews : ∀ j u, news[j]? = some u → w.cell? (ad.add j) = some u := by
      intro j u hu
      have hj : j < news.length := (List.getElem?_eq_some_iff.1 hu).1
      have hm : 0 < m := by
        rcases Nat.eq_zero_or_pos m with h0 | h0
        · rw [hS.len, h0] at hj; omega
        · exact h0
      obtain ⟨b, off, e1, _, hc⟩ := hS.lies 0 hm
      injection e1 with e1
      subst e1
      rw [Addr.add_lit]
      exact hc j u hu
    obtain ⟨v', w', hrun, h2, h3, _⟩ := run_append_own (P := P) w base t o.type e i z size bytes ht hi hz hsize hby hzs hsz v n xs hown ad m c news hS.len hnews h1 h63 hbytes hbase
    obtain ⟨a', c', rfl⟩ := hv' v' w' h2
    unfold Oper.wp
    simp [execOp, ho, resolve, invoke, builtin, hs, hx, hrun, Result.andThen]
    exact h _ _ w' h2 (below_grown (Below.refl _ _) h3 hbase hown) h3
end

/-- An owned row of one-cell elements: its places. -/
theorem own_place {w : World} {B : Nat} {E : TypeId} {a : Option Addr} {n c m : Nat} {xs : List Value} (h : w.ownsRow B E 1 (.slice a n c) m xs) {i : Nat} (hi : i < n) :
    ∃ g, a = some ⟨g, 0, none⟩ ∧ B ≤ g ∧ g < w.heap.size ∧ (∀ j, w.frozen? ⟨g, j, none⟩ = false) ∧ ∀ j v, xs[j]? = some v → w.cell? ⟨g, j, none⟩ = some v := by
  obtain ⟨hs, hm⟩ := Sl.of_own h
  subst hm
  obtain ⟨b, off, rfl, hlt, hc⟩ := hs.at hi
  rcases h.2 with ⟨hv, _⟩ | ⟨g, cap, cur, hv, hB, hg, _⟩
  · cases hv
  · injection hv with h1 h2 h3
    injection h1 with h1
    injection h1 with h1 h4
    subst h1 h4
    exact ⟨b, rfl, hB, hlt, fun j => by simp [World.frozen?, hg], fun j v hj => by have := hc j v hj; rwa [Nat.zero_add] at this⟩
theorem own_set {w : World} {B : Nat} {E : TypeId} {g n c m : Nat} {xs : List Value} (h : w.ownsRow B E 1 (.slice (some ⟨g, 0, none⟩) n c) m xs) (i : Nat) (u : Value) : (w.setCell ⟨g, i, none⟩ u).ownsRow B E 1 (.slice (some ⟨g, 0, none⟩) n c) m (xs.set i u) := by
  obtain ⟨hl, hr⟩ := h
  refine ⟨by rw [List.length_set]; exact hl, ?_⟩
  rcases hr with ⟨hv, _⟩ | ⟨g', cap, cur, hv, hB, hg, hnc, hcm, hcs, htk⟩
  · cases hv
  · injection hv with h1 h2 h3
    injection h1 with h1
    injection h1 with h1
    subst h1
    refine .inr ⟨g, cap, cur.setIfInBounds i u, by rw [h2, h3], hB, by simp [World.setCell, Array.getElem?_modify, hg], hnc, hcm, by simp [hcs], ?_⟩
    rw [← htk]
    simp [List.take_set]
end Tt

namespace Tt
open Go Go.RowKit
set_option linter.unusedVariables false

theorem still_of_quiet {P : Program} {o : Oper} {a : Act} {w : World} {K K' : Act → Prop} (h : ∀ a, K a → K' a) (hh : o.quiet P a (fun w' => w' = w) K) : o.still P a w K' := by
  obtain ⟨v, h1, h2⟩ := hh
  have h3 := h1 w rfl
  unfold Oper.quietAt at h3
  unfold Oper.still
  generalize (execOp a.eval o).run P w = r at *
  cases r with
  | ok n w' =>
    cases n <;> simp only [Oper.quietUpon, Oper.stillUpon] at h3 ⊢
    case enter f args => exact ⟨h3.1, v, h3.2, h _ h2⟩
    case value u => exact ⟨h3.1, by rw [h3.2]; exact h _ h2⟩
    case skip => exact ⟨h3.1, by have h2' := h _ h2; rw [h3.2] at h2'; exact h2'⟩
  | halt x w' => simp only [Oper.quietUpon] at h3

theorem wpStill_of_quiet {P : Program} {ops : Array Oper} {w : World} {Q : Act → Prop} : ∀ (l : List Oper) (a : Act), wpQuiet P ops (fun w' => w' = w) Q l a → wpStill P ops w Q l a
  | [], a, h => h
  | o :: rest, a, h => by
    unfold wpQuiet at h
    unfold wpStill
    split
    · rename_i hw
      rw [if_pos hw] at h
      exact still_of_quiet (fun a => wpStill_of_quiet rest a) h
    · rename_i hw
      rw [if_neg hw] at h
      exact wpStill_of_quiet rest _ h

theorem wp_quiet_tail {P : Program} {id : Nat} {Q : Exit → Act → World → Prop} {a : Act} {w : World} {l : List Oper} (n : Nat) (hm : P.follows .mixedOrders = true) (hB : Region.lexTailB .any l.toArray n = true)
    (l1 l2 : List Oper) (h1 : l.take n = l1) (h2 : l.drop n = l2)
    (h : wpQuiet P l.toArray (fun w' => w' = w.drew) (fun a' => wpList P l.toArray Q l2 a' w.drew) l1 a) : (Code.region id l.toArray true).wp P Q a w := by
  subst h1 h2
  exact wp_region_still_tail n hm hB (wpStill_of_quiet _ _ h)
end Tt

namespace Tt
open Go Go.RowKit
set_option linter.unusedVariables false

def Blk (w : World) (g : Nat) (T : TypeId) (cs : Array Value) : Prop := w.heap[g]? = some (.cells cs T (0, 0))
theorem Blk.lt {w : World} {g : Nat} {T : TypeId} {cs : Array Value} (h : Blk w g T cs) : g < w.heap.size := (Array.getElem?_eq_some_iff.1 h).1
theorem Blk.cell {w : World} {g : Nat} {T : TypeId} {cs : Array Value} (h : Blk w g T cs) {i : Nat} {v : Value} (hv : cs[i]? = some v) : w.cell? ⟨g, i, none⟩ = some v := by
  unfold World.cell?
  rw [h]
  simpa using hv
theorem Blk.frozen {w : World} {g : Nat} {T : TypeId} {cs : Array Value} (h : Blk w g T cs) (i : Nat) : w.frozen? ⟨g, i, none⟩ = false := by
  unfold World.frozen?
  rw [h]
  simp
theorem Blk.mono {B : Nat} {w w' : World} {g : Nat} {T : TypeId} {cs : Array Value} (h : Blk w g T cs) (hb : Below B w w') (hg : g < B) : Blk w' g T cs := (hb.block g hg).trans h
theorem Blk.late {w w' : World} {g : Nat} {T : TypeId} {cs : Array Value} (h : Blk w g T cs) (hb : Below w.heap.size w w') : Blk w' g T cs := h.mono hb h.lt
theorem Blk.set {w : World} {g : Nat} {T : TypeId} {cs : Array Value} (h : Blk w g T cs) (i : Nat) (v : Value) : Blk (w.setCell ⟨g, i, none⟩ v) g T (cs.setIfInBounds i v) := by
  unfold Blk at *
  simp [World.setCell, Array.getElem?_modify, h]
theorem Blk.set_other {w : World} {g g' : Nat} {T : TypeId} {cs : Array Value} (h : Blk w g T cs) (hne : g ≠ g') (i : Nat) (v : Value) : Blk (w.setCell ⟨g', i, none⟩ v) g T cs :=
  (Below.heap_setCell w ⟨g', i, none⟩ v g hne).trans h
theorem Blk.new (w : World) (T : TypeId) (cs : Array Value) : Blk (w.alloc (.cells cs T (0, 0))) w.heap.size T cs := heap_new w _
theorem Blk.alloc {w : World} {g : Nat} {T : TypeId} {cs : Array Value} (h : Blk w g T cs) (o : Obj) : Blk (w.alloc o) g T cs := (heap_old w o h.lt).trans h
theorem own_set_other {w : World} {B : Nat} {E : TypeId} {sz : Nat} {v : Value} {n : Nat} {xs : List Value} (h : w.ownsRow B E sz v n xs) {g : Nat} (hg : g < B) (i : Nat) (u : Value) : (w.setCell ⟨g, i, none⟩ u).ownsRow B E sz v n xs :=
  own_above h fun k hk _ => Below.heap_setCell w ⟨g, i, none⟩ u k (by show k ≠ g; omega)
/-- What lies above a block stays, whatever is stored in that block. -/
theorem sl_set_other {w : World} {a : Option Addr} {n c sz B : Nat} {cs : List Value} (h : Sl w a n c sz cs) (ha : ∀ x, a = some x → B ≤ x.block) {g : Nat} (hg : g < B) (i : Nat) (u : Value) : Sl (w.setCell ⟨g, i, none⟩ u) a n c sz cs :=
  ⟨h.len, h.le, h.max, fun k hk => by
    obtain ⟨b, o, rfl, hb, hc⟩ := h.lies k hk
    have hbB := ha _ rfl
    refine ⟨b, o, rfl, by simpa using hb, fun j v hj => ?_⟩
    have hne : (⟨g, i, none⟩ : Addr) ≠ ⟨b, o + j, none⟩ := by intro he; injection he with h1 _; simp only at hbB; omega
    exact (World.cell?_setCell_other _ _ _ _ hne).trans (hc j v hj), h.fit⟩
theorem sl_set3 {w : World} {a : Option Addr} {n c sz B : Nat} {cs : List Value} (h : Sl w a n c sz cs) (ha : ∀ x, a = some x → B ≤ x.block) {g : Nat} (hg : g < B) (x y z : Value) : Sl (((w.setCell ⟨g, 0, none⟩ x).setCell ⟨g, 1, none⟩ y).setCell ⟨g, 2, none⟩ z) a n c sz cs :=
  sl_set_other (sl_set_other (sl_set_other h ha hg 0 x) ha hg 1 y) ha hg 2 z
/-- Three cells stored, one behind the other. -/
theorem Blk.set3 {w : World} {g : Nat} {T : TypeId} {x y z : Value} (h : Blk w g T #[x, y, z]) (a b c : Value) : Blk (((w.setCell ⟨g, 0, none⟩ a).setCell ⟨g, 1, none⟩ b).setCell ⟨g, 2, none⟩ c) g T #[a, b, c] := ((h.set 0 a).set 1 b).set 2 c
theorem below_set3 {B : Nat} {a w : World} (h : Below B a w) {g : Nat} (hg : B ≤ g) (x y z : Value) : Below B a (((w.setCell ⟨g, 0, none⟩ x).setCell ⟨g, 1, none⟩ y).setCell ⟨g, 2, none⟩ z) := ((h.setCell hg _).setCell hg _).setCell hg _
theorem own_set3 {w : World} {B : Nat} {E : TypeId} {sz : Nat} {v : Value} {n : Nat} {xs : List Value} (h : w.ownsRow B E sz v n xs) {g : Nat} (hg : g < B) (x y z : Value) : (((w.setCell ⟨g, 0, none⟩ x).setCell ⟨g, 1, none⟩ y).setCell ⟨g, 2, none⟩ z).ownsRow B E sz v n xs := own_set_other (own_set_other (own_set_other h hg 0 x) hg 1 y) hg 2 z
theorem Blk.set4 {w : World} {g : Nat} {T : TypeId} {x y z u : Value} (h : Blk w g T #[x, y, z, u]) (a b c d : Value) : Blk ((((w.setCell ⟨g, 0, none⟩ a).setCell ⟨g, 1, none⟩ b).setCell ⟨g, 2, none⟩ c).setCell ⟨g, 3, none⟩ d) g T #[a, b, c, d] := (((h.set 0 a).set 1 b).set 2 c).set 3 d
theorem below_set4 {B : Nat} {a w : World} (h : Below B a w) {g : Nat} (hg : B ≤ g) (x y z u : Value) : Below B a ((((w.setCell ⟨g, 0, none⟩ x).setCell ⟨g, 1, none⟩ y).setCell ⟨g, 2, none⟩ z).setCell ⟨g, 3, none⟩ u) := (below_set3 h hg x y z).setCell hg _
theorem sl_set4 {w : World} {a : Option Addr} {n c sz B : Nat} {cs : List Value} (h : Sl w a n c sz cs) (ha : ∀ x, a = some x → B ≤ x.block) {g : Nat} (hg : g < B) (x y z u : Value) : Sl ((((w.setCell ⟨g, 0, none⟩ x).setCell ⟨g, 1, none⟩ y).setCell ⟨g, 2, none⟩ z).setCell ⟨g, 3, none⟩ u) a n c sz cs :=
  sl_set_other (sl_set3 h ha hg x y z) ha hg 3 u
theorem results_blk_tmp {P : Program} {fn : Func} {p u : Tmp} {ty : TypeId} (h : fn.results = #[.cell p ty, .tmp u]) (tmps : Array Value) (w : World) (g : Nat) (t : TypeId) (cs : Array Value) (d : TypeDesc)
    (hp : tmps.getD p undef = .pointer (some ⟨g, 0, none⟩)) (hg : Blk w g t cs)
    (hu : P.underlying ty = some d) (hd : (match d with | .struct _ | .array _ _ => true | _ => false) = true) (hi : (P.info? ty).map (·.size) = some cs.size) :
    (results fn tmps).run P w = .ok (.tuple #[.agg cs, tmps.getD u undef]) w := by
  rw [results_cell_tmp h, hp]
  simp [asAddr, Result.andThen, run_loadVar_row w g t ty cs (0, 0) d hg hu hd hi]
/-- A drawn region whose operations yield the same values in every world of a class, and leave it. -/
theorem wp_quiet_in {P : Program} {S : Type} (f : S → World) {id : Nat} {Q : Exit → Act → World → Prop} {a : Act} {w : World} {l : List Oper} (hm : P.follows .mixedOrders = true) (hB : Region.lexB .any l.toArray = true)
    (hC : ∃ s, w.drew = f s) (h : wpQuiet P l.toArray (fun W => ∃ s, W = f s) (fun a' => ∀ s, Q .normal a' (f s)) l a) : (Code.region id l.toArray true).wp P Q a w := by
  refine wp_region_quiet (C := fun W => ∃ s, W = f s) hm hB hC ?_
  have : (fun a' => ∀ s, Q .normal a' (f s)) = (fun a' => ∀ w', (∃ s, w' = f s) → Q .normal a' w') := by
    funext a'
    apply propext
    exact ⟨fun h w' ⟨s, e⟩ => e ▸ h s, fun h s => h _ ⟨s, rfl⟩⟩
  rw [this] at h
  simpa using h
theorem later_worlds (w : World) : ∃ (S : Type) (f : S → World), Nonempty S ∧ (∀ s, Below w.heap.size w (f s)) ∧ ∀ W, Below w.heap.size w W → ∃ s, W = f s :=
  ⟨{W // Below w.heap.size w W}, Subtype.val, ⟨⟨w, Below.refl _ _⟩⟩, fun s => s.2, fun W h => ⟨⟨W, h⟩, rfl⟩⟩
end Tt

namespace Tt
open Go Go.RowKit
set_option linter.unusedVariables false

structure But (b : Nat) (w w' : World) : Prop where
  os : w'.os = w.os
  tape : w'.tape = w.tape
  output : w'.output = w.output
  size : w.heap.size ≤ w'.heap.size
  block : ∀ k, k < w.heap.size → k ≠ b → w'.heap[k]? = w.heap[k]?
theorem But.refl (b : Nat) (w : World) : But b w w := ⟨rfl, rfl, rfl, Nat.le_refl _, fun _ _ _ => rfl⟩
theorem But.trans {b : Nat} {w w' w'' : World} (h : But b w w') (k : But b w' w'') : But b w w'' :=
  ⟨k.os.trans h.os, k.tape.trans h.tape, k.output.trans h.output, Nat.le_trans h.size k.size, fun i hi hb => (k.block i (Nat.lt_of_lt_of_le hi h.size) hb).trans (h.block i hi hb)⟩
theorem But.of_below {b : Nat} {w w' : World} (h : Below w.heap.size w w') : But b w w' := ⟨h.os, h.tape, h.output, h.size, fun k hk _ => h.block k hk⟩
theorem But.later {b : Nat} {w w' w'' : World} (h : But b w w') (k : Below w'.heap.size w' w'') : But b w w'' := h.trans (But.of_below k)
theorem But.alloc {b : Nat} {w w' : World} (h : But b w w') (o : Obj) : But b w (w'.alloc o) := h.trans (But.of_below ((Below.refl _ _).alloc (Nat.le_refl _) _))
theorem But.below {b : Nat} {w w' : World} (h : But b w w') {B : Nat} (h1 : B ≤ b) (h2 : B ≤ w.heap.size) : Below B w w' := ⟨h.os, h.tape, h.output, h.size, fun k hk => h.block k (by omega) (by omega)⟩
theorem But.cell {b : Nat} {w w' : World} (h : But b w w') {p : Addr} (h1 : p.block < w.heap.size) (h2 : p.block ≠ b) : w'.cell? p = w.cell? p := by
  unfold World.cell?; rw [h.block _ h1 h2]
theorem But.frozen {b : Nat} {w w' : World} (h : But b w w') {p : Addr} (h1 : p.block < w.heap.size) (h2 : p.block ≠ b) : w'.frozen? p = w.frozen? p := by
  unfold World.frozen?; rw [h.block _ h1 h2]
theorem But.set {b : Nat} {w w' : World} (h : But b w w') (i : Nat) (v : Value) : But b w (w'.setCell ⟨b, i, none⟩ v) :=
  h.trans ⟨rfl, rfl, rfl, by simp, fun k _ hk => Below.heap_setCell w' ⟨b, i, none⟩ v k hk⟩
/-- a store into a block that is new -/
theorem But.set_new {b : Nat} {w w' : World} (h : But b w w') {g : Nat} (hg : w.heap.size ≤ g) (i : Nat) (v : Value) : But b w (w'.setCell ⟨g, i, none⟩ v) :=
  ⟨h.os, h.tape, h.output, by have := h.size; simpa using this, fun k hk hb => (Below.heap_setCell w' ⟨g, i, none⟩ v k (by show k ≠ g; omega)).trans (h.block k hk hb)⟩
theorem But.qt {b : Nat} {w w' w'' : World} (h : But b w w') (q : Qt w' w'') : But b w w'' := h.later (q.below _)
theorem Sl.but {w w' : World} {a : Option Addr} {n cap sz b : Nat} {cs : List Value} (h : Sl w a n cap sz cs) (hb : But b w w') (ha : ∀ x, a = some x → x.block ≠ b) : Sl w' a n cap sz cs :=
  ⟨h.len, h.le, h.max, fun i hi => by
    obtain ⟨g, off, e, hlt, hc⟩ := h.lies i hi
    have hg : g ≠ b := ha _ e
    exact ⟨g, off, e, Nat.lt_of_lt_of_le hlt hb.size, fun j v hv => by rw [hb.cell (p := ⟨g, off + j, none⟩) hlt hg]; exact hc j v hv⟩, h.fit⟩
theorem Blk.but {b : Nat} {w w' : World} {g : Nat} {T : TypeId} {cs : Array Value} (h : Blk w g T cs) (hb : But b w w') (hg : g ≠ b) : Blk w' g T cs := (hb.block g h.lt hg).trans h
theorem own_but {b : Nat} {w w' : World} {B : Nat} {E : TypeId} {sz : Nat} {v : Value} {n : Nat} {xs : List Value} (h : w.ownsRow B E sz v n xs) (hb : But b w w') (hv : v.ownBlock ≠ some b) : w'.ownsRow B E sz v n xs := by
  obtain ⟨hl, hr⟩ := h
  refine ⟨hl, ?_⟩
  rcases hr with hn | ⟨g, cap, cur, rfl, hB, hg, r⟩
  · exact .inl hn
  · exact .inr ⟨g, cap, cur, rfl, hB, by rw [hb.block g (Array.getElem?_eq_some_iff.1 hg).1 (fun e => hv (by rw [e]; rfl))]; exact hg, r⟩
end Tt

namespace Tt
open Go Go.RowKit
set_option linter.unusedVariables false

theorem add_block (a : Addr) (k : Nat) : (a.add k).block = a.block := by
  unfold Addr.add
  split <;> rfl
/-- the slice value lies where the other one does -/
def In (a2 a : Option Addr) : Prop := ∀ x, a2 = some x → ∃ y, a = some y ∧ y.block = x.block
theorem In.ne {a2 a : Option Addr} {g : Nat} (h : In a2 a) (ha : ∀ x, a = some x → x.block ≠ g) : ∀ x, a2 = some x → x.block ≠ g := fun x hx => by
  obtain ⟨y, h1, h2⟩ := h x hx
  rw [← h2]
  exact ha y h1
theorem In.sub (a : Option Addr) (c l k : Nat) : In (if c = l then a else a.map (·.add k)) a := fun x hx => by
  split at hx
  · exact ⟨x, hx, rfl⟩
  · cases a with
    | none => cases hx
    | some y =>
      simp only [Option.map_some, Option.some.injEq] at hx
      exact ⟨y, rfl, by rw [← hx, add_block]⟩
section
variable {P : Program} {T E : TypeId} {sz : Nat} (ht : P.underlying T = some (.slice E)) (hE : ∀ w, (Go.sizeOf E).run P w = .ok sz w)
include ht hE
theorem sub_lh {w : World} {a : Option Addr} {n c : Nat} {cs : List Value} (h : Sl w a n c sz cs) (l hi : Int) (h0 : 0 ≤ l) (h1 : l ≤ hi) (h2 : hi ≤ n) (n2 c2 : Nat) (hn2 : (n2 : Int) = hi - l) (hc2 : (c2 : Int) = c - l) :
    ∃ a2, (∀ W, (Instr.sliceAt T (.slice a n c) (some (.int .i64 l)) (some (.int .i64 hi)) none).run P W = .ok (.slice a2 n2 c2) W) ∧ Sl w a2 n2 c2 sz ((cs.drop (l.toNat * sz)).take (n2 * sz)) ∧ In a2 a := by
  have he : P.elem T = E := by unfold Program.elem; rw [ht]
  have hle := h.le
  refine ⟨_, fun W => ?_, sl_sub h l.toNat hi.toNat (by omega) (by omega) n2 c2 (by omega) (by omega), In.sub _ _ _ _⟩
  rw [run_sliceAt_slice (h := by rw [he]; exact ht), run_slice_lh (ht := by rw [he]; exact ht) (h0 := h0) (h1 := h1) (h2 := by omega), he, hE]
  simp only [Result.andThen, sliced]
  congr 2 <;> omega
theorem sub_h {w : World} {a : Option Addr} {n c : Nat} {cs : List Value} (h : Sl w a n c sz cs) (hi : Int) (h1 : 0 ≤ hi) (h2 : hi ≤ n) (n2 : Nat) (hn2 : (n2 : Int) = hi) :
    ∃ a2, (∀ W, (Instr.sliceAt T (.slice a n c) none (some (.int .i64 hi)) none).run P W = .ok (.slice a2 n2 c) W) ∧ Sl w a2 n2 c sz (cs.take (n2 * sz)) ∧ In a2 a := by
  have he : P.elem T = E := by unfold Program.elem; rw [ht]
  have hle := h.le
  have hs := sl_sub h 0 hi.toNat (by omega) (by omega) n2 c (by omega) (by omega)
  rw [Nat.zero_mul, List.drop_zero] at hs
  refine ⟨_, fun W => ?_, hs, In.sub _ _ _ _⟩
  rw [run_sliceAt_slice (h := by rw [he]; exact ht), run_slice_h (ht := by rw [he]; exact ht) (h0 := h1) (h2 := by omega), he, hE]
  simp only [Result.andThen, sliced, Nat.zero_mul]
  congr 2; omega
theorem sub_l {w : World} {a : Option Addr} {n c : Nat} {cs : List Value} (h : Sl w a n c sz cs) (l : Int) (h0 : 0 ≤ l) (h1 : l ≤ n) (n2 c2 : Nat) (hn2 : (n2 : Int) = n - l) (hc2 : (c2 : Int) = c - l) :
    ∃ a2, (∀ W, (Instr.sliceAt T (.slice a n c) (some (.int .i64 l)) none none).run P W = .ok (.slice a2 n2 c2) W) ∧ Sl w a2 n2 c2 sz (cs.drop (l.toNat * sz)) ∧ In a2 a := by
  have he : P.elem T = E := by unfold Program.elem; rw [ht]
  have hle := h.le
  have hs := sl_sub h l.toNat n (by omega) (by omega) n2 c2 (by omega) (by omega)
  rw [List.take_of_length_le (by rw [List.length_drop, h.len, show n2 = n - l.toNat by omega, Nat.sub_mul]; omega)] at hs
  refine ⟨_, fun W => ?_, hs, In.sub _ _ _ _⟩
  rw [run_sliceAt_slice (h := by rw [he]; exact ht), run_slice_l (ht := by rw [he]; exact ht) (h0 := h0) (h1 := by omega), he, hE]
  simp only [Result.andThen, sliced]
  congr 2 <;> omega
end
theorem below_worlds (B : Nat) (w : World) : ∃ (S : Type) (f : S → World), Nonempty S ∧ (∀ s, Below B w (f s)) ∧ ∀ W, Below B w W → ∃ s, W = f s :=
  ⟨{W // Below B w W}, Subtype.val, ⟨⟨w, Below.refl _ _⟩⟩, fun s => s.2, fun W h => ⟨⟨W, h⟩, rfl⟩⟩
end Tt
