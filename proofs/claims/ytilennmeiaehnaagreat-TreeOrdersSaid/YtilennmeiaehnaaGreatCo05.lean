/- Chapter 1: Turn of both sides, Get of the document. | Rows of structs: the cells of each, one behind the other (any program). | slices.IndexFunc, ContainsFunc over links, over bytes. |  |  |  -/
import Derived.Lib.ConvBytes
import Derived.Laws.AppendOwn
import Derived.Test.YtilennmeiaehnaaGreatCo04
import Derived.Test.YtilennmeiaehnaaGreatCo00
import Derived.Test.YtilennmeiaehnaaGreatCo01
import Derived.Test.YtilennmeiaehnaaGreatCo03
import Derived.Deep.QuietTactic
import Derived.BigQuiet
import Derived.Shelf.Bytes.SlIndexAt
import Derived.Lib.BytesEntry
import Derived.Deep.RegionLaw
import Derived.Deep.CutRange
import Derived.Deep.Cut
import Derived.BigRegion
import Derived.Lib.SliceRun
import Derived.Laws.Tables
namespace Go.Proofs.YtilennmeiaehnaaGreat
open Go.RowKit Tt
set_option linter.unusedVariables false
set_option linter.unusedSimpArgs false

def turnB (s o : Int) : Bool := mayB s o || (s == 8 && mayB 1 o)
def turnIx (n p i : Nat) : Nat := if i < n - n % p then i - i % p + p - 1 - i % p else i
def turned (p : Nat) (b : List Int) : List Int := (List.range b.length).map fun i => b.getD (turnIx b.length p i) 0
def turnS (b : List Int) (s o : Int) : List Int := if turnB s o = true then (if o = 1 then turned s.toNat b else b) else []
theorem turned_len (p : Nat) (b : List Int) : (turned p b).length = b.length := by simp [turned]
theorem turned_get {p i : Nat} {b : List Int} (h : i < b.length) : (turned p b).getD i 0 = b.getD (turnIx b.length p i) 0 := by
  rw [getD_el (by rw [turned_len]; exact h)]
  simp [turned]
theorem turnIx_lt {n p i : Nat} (hp : 0 < p) (h : i < n) : turnIx n p i < n := by
  unfold turnIx
  split
  · rename_i h1
    have := Nat.mod_lt i hp
    have h2 := Nat.div_add_mod i p
    have h3 := Nat.div_add_mod n p
    have h4 : i / p < n / p := by
      rw [Nat.div_lt_iff_lt_mul hp, Nat.mul_comm]
      omega
    have h5 : p * (i / p + 1) ≤ p * (n / p) := Nat.mul_le_mul_left p h4
    rw [Nat.mul_succ] at h5
    omega
  · exact h
theorem turnB_size {s o : Int} (h : turnB s o = true) : (s = 1 ∨ s = 2 ∨ s = 4 ∨ s = 8) ∧ (o = 1 ∨ o = 2) := by
  unfold turnB mayB at h
  simp at h
  omega
theorem byt_turned {p : Nat} {b : List Int} (hb : Byt b) : Byt (turned p b) := by
  intro x hx
  unfold turned at hx
  obtain ⟨i, _, rfl⟩ := List.mem_map.1 hx
  exact hb.get _
theorem byt_turn {b : List Int} (hb : Byt b) (s o : Int) : Byt (turnS b s o) := by
  unfold turnS
  split
  · split
    · exact byt_turned hb
    · exact hb
  · intro x hx; cases hx
/-- the bytes, of which those ahead of q are turned -/
def turnTo (p q : Nat) (b cs : List Int) : Prop := cs.length = b.length ∧ ∀ k, k < b.length → cs.getD k 0 = if k < q then b.getD (turnIx b.length p k) 0 else b.getD k 0
theorem turnTo_step {p q : Nat} {b cs cs' : List Int} (hp : p = 1 ∨ p = 2 ∨ p = 4 ∨ p = 8) (hq : q % p = 0) (hqn : q + p ≤ b.length) (h : turnTo p q b cs) (hl : cs'.length = cs.length)
    (hg : ∀ k, k < cs.length → cs'.getD k 0 = if q ≤ k ∧ k < q + p then cs.getD (2 * q + p - 1 - k) 0 else cs.getD k 0) : turnTo p (q + p) b cs' := by
  obtain ⟨h1, h2⟩ := h
  refine ⟨hl.trans h1, fun k hk => ?_⟩
  rw [hg k (by omega)]
  by_cases hi : q ≤ k ∧ k < q + p
  · rw [if_pos hi, if_pos hi.2, h2 _ (by omega), if_neg (by omega)]
    congr 1
    unfold turnIx
    rcases hp with rfl | rfl | rfl | rfl
    all_goals
      rw [if_pos (by omega)]
      omega
  · rw [if_neg hi, h2 k hk]
    by_cases hk2 : k < q
    · rw [if_pos hk2, if_pos (by omega)]
    · rw [if_neg hk2, if_neg (by omega)]
theorem turnTo_end {p q : Nat} {b cs : List Int} (hp : p = 1 ∨ p = 2 ∨ p = 4 ∨ p = 8) (hq : q % p = 0) (hqn : b.length < q + p) (hqb : q ≤ b.length) (h : turnTo p q b cs) : cs = turned p b := by
  refine getD_ext (by rw [h.1, turned_len]) (fun k hk => ?_)
  rw [h.1] at hk
  rw [h.2 k hk, turned_get hk]
  by_cases hk2 : k < q
  · rw [if_pos hk2]
  · rw [if_neg hk2]
    unfold turnIx
    rcases hp with rfl | rfl | rfl | rfl
    all_goals rw [if_neg (by omega)]

theorem splice_all {b z : List Int} {n : Nat} (hb : b.length = n) (hz : z.length = n) : splice z 0 (b.take n) = b := by
  unfold splice
  simp [hb, hz, List.take_of_length_le (Nat.le_of_eq hb)]
theorem sub_at {P : Program} {T E : TypeId} (ht : P.underlying T = some (.slice E)) (hE : ∀ w, (Go.sizeOf E).run P w = .ok 1 w) (g n q p : Nat) (hp : 1 ≤ p) (h : q + p ≤ n) (W : World) :
    (Instr.sliceAt T (.slice (some ⟨g, 0, none⟩) n n) (some (.int .i64 (q : Int))) (some (.int .i64 ((q : Int) + p))) none).run P W = .ok (.slice (some ⟨g, q, none⟩) p (n - q)) W := by
  have he : P.elem T = E := by unfold Program.elem; rw [ht]
  rw [run_sliceAt_slice (h := by rw [he]; exact ht), run_slice_lh (ht := by rw [he]; exact ht) (h0 := by omega) (h1 := by omega) (h2 := by omega), he, hE]
  simp only [Result.andThen, sliced]
  have e1 : ((q : Int) + p - q).toNat = p := by omega
  have e2 : ¬ n = q := by omega
  simp [e1, e2, Addr.add]
  omega
end Go.Proofs.YtilennmeiaehnaaGreat

namespace Tt
open Go Go.RowKit
set_option linter.unusedVariables false

/-- the cells of a row, each element's by f -/
def fl {α : Type} (f : α → List Value) (l : List α) : List Value := l.flatMap f
section
variable {α : Type} {f : α → List Value} {k : Nat}
theorem fl_cons (x : α) (r : List α) : fl f (x :: r) = f x ++ fl f r := rfl
theorem fl_append (x y : List α) : fl f (x ++ y) = fl f x ++ fl f y := by simp [fl]
theorem fl_snoc (x : List α) (y : α) : fl f (x ++ [y]) = fl f x ++ f y := by rw [fl_append]; simp [fl]
theorem fl_len (hf : ∀ x, (f x).length = k) : ∀ (l : List α), (fl f l).length = l.length * k
  | [] => by simp [fl]
  | x :: r => by rw [fl_cons, List.length_append, fl_len hf r, hf x, List.length_cons, Nat.succ_mul, Nat.add_comm]
theorem fl_get (hf : ∀ x, (f x).length = k) (d : α) : ∀ {l : List α} {i j : Nat}, i < l.length → j < k → (fl f l)[i * k + j]? = (f (l.getD i d))[j]?
  | x :: r, 0, j, _, hj => by rw [fl_cons, List.getElem?_append_left (by rw [hf x]; omega), Nat.zero_mul, Nat.zero_add]; rfl
  | x :: r, i + 1, j, hi, hj => by
    have e : (i + 1) * k + j - k = i * k + j := by rw [Nat.succ_mul]; omega
    rw [fl_cons, List.getElem?_append_right (by rw [hf x, Nat.succ_mul]; omega), hf x, e, fl_get hf d (by simpa using hi) hj]
    rfl
theorem fl_one (h1 : ∀ x, ∀ u ∈ f x, u.oneCell' = true) {l : List α} : ∀ u ∈ fl f l, u.oneCell' = true := by
  intro u hu
  obtain ⟨x, _, hx⟩ := List.mem_flatMap.1 hu
  exact h1 x u hx
theorem Sl.flen {w : World} {a : Option Addr} {n c : Nat} {l : List α} (hf : ∀ x, (f x).length = k) (hk : 0 < k) (h : Sl w a n c k (fl f l)) : l.length = n := by
  have := h.len
  rw [fl_len hf] at this
  exact Nat.eq_of_mul_eq_mul_right hk this
/-- an element of a row that is read: its cells -/
theorem Sl.elem {w : World} {a : Option Addr} {n c : Nat} {l : List α} (hf : ∀ x, (f x).length = k) (hk : 0 < k) (d : α) (h : Sl w a n c k (fl f l)) {i : Nat} (hi : i < n) :
    ∃ b o, a = some ⟨b, o, none⟩ ∧ b < w.heap.size ∧ ∀ j v, (f (l.getD i d))[j]? = some v → w.cell? ⟨b, o + i * k + j, none⟩ = some v := by
  have hl := h.flen hf hk
  obtain ⟨b, o, rfl, hb, hc⟩ := h.at hi
  refine ⟨b, o, rfl, hb, fun j v hj => ?_⟩
  have hjk : j < k := by
    have := (List.getElem?_eq_some_iff.1 hj).1
    rwa [hf] at this
  have := hc (i * k + j) v ((fl_get hf d (by omega) hjk).trans hj)
  rwa [← Nat.add_assoc] at this
end
end Tt

namespace Go.Proofs.YtilennmeiaehnaaGreat
open Go.RowKit Tt
set_option linter.unusedVariables false
set_option linter.unusedSimpArgs false

abbrev Lk := Int × Int
def lkc (x : Lk) : List Value := [.int .i64 x.1, .int .i64 x.2]
theorem lkc_len (x : Lk) : (lkc x).length = 2 := rfl
end Go.Proofs.YtilennmeiaehnaaGreat

/- Chapter 18: kinds of values, and which may be; what a row of numbers holds. -/
namespace Go.Proofs.YtilennmeiaehnaaGreat
open Go.RowKit Tt
set_option linter.unusedVariables false

def kindL : List (Int × Int × Int) := [(0, 0, 0), (1, 1, 1), (1, 1, 1), (2, 2, 1), (4, 4, 1), (8, 4, 3), (1, 1, 2), (1, 1, 1), (2, 2, 2), (4, 4, 2), (8, 4, 4), (4, 4, 5), (8, 8, 5)]
def kindS (n : Int) : Int × Int × Int := if n < 0 ∨ 12 < n then (0, 0, 0) else kindL.getD n.toNat (0, 0, 0)
theorem kindS_out {n : Int} (h : n < 0 ∨ 12 < n) : kindS n = (0, 0, 0) := if_pos h
theorem kindS_size (n : Int) : 0 ≤ (kindS n).1 ∧ (kindS n).1 ≤ 8 := by
  unfold kindS
  split
  · exact ⟨by decide, by decide⟩
  · have : ∀ x ∈ kindL, 0 ≤ x.1 ∧ x.1 ≤ 8 := by decide
    rw [List.getD_eq_getElem?_getD]
    cases h : kindL[n.toNat]? with
    | none => exact ⟨by decide, by decide⟩
    | some x => exact this x (List.mem_of_getElem? h)


set_option maxRecDepth 100000 in
set_option maxHeartbeats 1000000 in
theorem indexbyte_any (a : Option Addr) (n c : Nat) (x : List Int) (cv : Int) (w : World) (hs : Sl w a n c 1 (ints .u8 x)) :
    Calls Tryz.prog 146 #[.slice a n c, .int .u8 cv] w fun e w' => e = .returned (.int .i64 (Lib.indexByte (Lib.bytesOf x) cv.toNat.toUInt8)) ∧ w = w' := by
  have hl := hs.ilen
  cases a with
  | none =>
    have h1 := hs.fit rfl
    have h2 := hs.le
    subst h1
    obtain rfl : n = 0 := by omega
    obtain rfl : x = [] := List.eq_nil_of_length_eq_zero hl
    go_enter Tryz.func146, Tryz.ntmps146
    go_wp2
    rw [run_callFunc_extern Tryz.func180 (by kernel_rfl) (by kernel_rfl) (by kernel_rfl) (e := Extern.BytealgIndexByte.indexByte) (by kernel_rfl), Lib.run_indexByteNil w 0 0 cv]
    simp only [Result.andThen]
    rw [Oper.upon_value]
    go_wp2
    go_ret
    exact ⟨rfl, rfl⟩
  | some y =>
    have hc : ∀ i, i < n → w.cell? (y.add i) = some (.int .u8 (x.getD i 0)) := fun i hi => by
      obtain ⟨b, off, e, _, hc⟩ := hs.at hi
      injection e with e
      subst e
      rw [Addr.add_lit]
      exact hc i _ (ints_get (by omega))
    go_enter Tryz.func146, Tryz.ntmps146
    go_wp2
    rw [run_callFunc_extern Tryz.func180 (by kernel_rfl) (by kernel_rfl) (by kernel_rfl) (e := Extern.BytealgIndexByte.indexByte) (by kernel_rfl), Lib.run_indexByteAt w y n c x hl hc cv]
    simp only [Result.andThen]
    rw [Oper.upon_value]
    go_wp2
    go_ret
    exact ⟨rfl, rfl⟩
end Go.Proofs.YtilennmeiaehnaaGreat

namespace Go.Proofs.YtilennmeiaehnaaGreat
open Go.RowKit Tt
set_option linter.unusedVariables false

def kindCells : Array Value := #[.int .i64 0, .int .i64 0, .int .i64 0, .int .i64 1, .int .i64 1, .int .i64 1, .int .i64 1, .int .i64 1, .int .i64 1, .int .i64 2, .int .i64 2, .int .i64 1, .int .i64 4, .int .i64 4, .int .i64 1, .int .i64 8, .int .i64 4, .int .i64 3, .int .i64 1, .int .i64 1, .int .i64 2, .int .i64 1, .int .i64 1, .int .i64 1, .int .i64 2, .int .i64 2, .int .i64 2, .int .i64 4, .int .i64 4, .int .i64 2, .int .i64 8, .int .i64 4, .int .i64 4, .int .i64 4, .int .i64 4, .int .i64 5, .int .i64 8, .int .i64 8, .int .i64 5]
theorem wpList_built {P : Program} {ops : Array Oper} {rest : List Oper} {o : Oper} {a : Act} {w : World} {Q : Exit → Act → World → Prop} (hg : o.guard = none) (t : TypeId) (parts : Array (Nat × Operand)) (ho : o.op = .build t parts) (cells : Array Value)
    (hf : P.built t (parts.map fun (i, x) => (i, a.eval x)).toList = some cells)
    (h : wpList P ops Q rest (a.put o.dst (.agg cells)) w) : wpList P ops Q (o :: rest) a w :=
  wpList_build hg t parts ho (by rw [hf]; rfl) (by rw [hf]; exact h)
theorem setRow_below {B : Nat} {w w' : World} (h : Below B w w') {g : Nat} (hg : B ≤ g) (cs : Array Value) : Below B w (w'.setRow g cs) :=
  ⟨h.os, h.tape, h.output, by rw [setRow_size]; exact h.size, fun k hk => by rw [setRow_other _ _ _ _ (by omega)]; exact h.block k hk⟩

set_option maxRecDepth 100000 in
set_option maxHeartbeats 1000000 in
theorem kinds_any (w : World) : Calls Tryz.prog 153 #[] w fun e w' => e = .returned (.agg kindCells) ∧ Below w.heap.size w w' := by
  have ki : (Tryz.prog.info? 206).map (·.size) = some kindCells.size := by kernel_rfl
  have ka : kindCells.all (·.oneCell') = true := by kernel_rfl
  go_enter Tryz.func153, Tryz.ntmps153
  go_wp2_with (first
    | (refine wpList_built rfl 206 _ rfl kindCells (by kernel_rfl) ?_)
    | (refine wpList_store_row rfl 206 (.tmp 0) (.tmp 13) rfl w.heap.size kindCells rfl rfl 206 _ (heap_new w _) ki rfl ka ?_))
  refine bodyPost_ret (results_cell_row rfl _ _ w.heap.size 206 kindCells (0, 0) _ rfl (setRow_heap _ _ _ _ _ _ (heap_new w _)) Tryz.underlying206 rfl ki) rfl ?_
  exact ⟨rfl, setRow_below ((Below.refl _ _).alloc (Nat.le_refl _) _) (Nat.le_refl _) _⟩

theorem kind_at {n : Int} (h0 : 0 ≤ n) (h1 : n ≤ 12) (W : World) : (Instr.index 206 (.agg kindCells) (.int .i64 n)).run Tryz.prog W = .ok (.agg #[.int .i64 (kindS n).1, .int .i64 (kindS n).2.1, .int .i64 (kindS n).2.2]) W := by
  rcases (by omega : n = 0 ∨ n = 1 ∨ n = 2 ∨ n = 3 ∨ n = 4 ∨ n = 5 ∨ n = 6 ∨ n = 7 ∨ n = 8 ∨ n = 9 ∨ n = 10 ∨ n = 11 ∨ n = 12) with rfl | rfl | rfl | rfl | rfl | rfl | rfl | rfl | rfl | rfl | rfl | rfl | rfl
  all_goals kernel_rfl

set_option maxHeartbeats 1000000 in
theorem kind_any (n : Int) (w : World) : Calls Tryz.prog 117 #[.int .i64 n] w fun e w' => e = .returned (.agg #[.int .i64 (kindS n).1, .int .i64 (kindS n).2.1, .int .i64 (kindS n).2.2]) ∧ Below w.heap.size w w' := by
  by_cases h : n < 0 ∨ 12 < n
  · rw [kindS_out h]
    by_cases h0 : n < 0
    · go_enter Tryz.func117, Tryz.ntmps117
      go_wp2
      refine bodyPost_ret (results_cell_row rfl _ _ w.heap.size 177 #[.int .i64 0, .int .i64 0, .int .i64 0] (0, 0) _ rfl (heap_new w _) Tryz.underlying177 rfl (by kernel_rfl)) rfl ?_
      exact ⟨rfl, (Below.refl _ _).alloc (Nat.le_refl _) _⟩
    · have h1 : 12 < n := by omega
      go_enter Tryz.func117, Tryz.ntmps117
      go_wp2
      refine bodyPost_ret (results_cell_row rfl _ _ w.heap.size 177 #[.int .i64 0, .int .i64 0, .int .i64 0] (0, 0) _ rfl (heap_new w _) Tryz.underlying177 rfl (by kernel_rfl)) rfl ?_
      exact ⟨rfl, (Below.refl _ _).alloc (Nat.le_refl _) _⟩
  · have hidx := fun W => kind_at (n := n) (by omega) (by omega) W
    have h0 : ¬ n < 0 := by omega
    have h1 : ¬ 12 < n := by omega
    obtain ⟨s, p, i, hk⟩ : ∃ s p i, kindS n = (s, p, i) := ⟨_, _, _, rfl⟩
    rw [hk] at hidx ⊢
    simp only at hidx ⊢
    clear h hk
    go_enter Tryz.func117, Tryz.ntmps117
    go_wp2_with fail
    refine (kinds_any _).mono ?_
    rintro e w1 ⟨rfl, hb⟩
    have hg : w1.heap[w.heap.size]? = _ := (hb.block w.heap.size (by simp)).trans (heap_new w _)
    generalize kindCells = kc at *
    have kall : (#[.int .i64 s, .int .i64 p, .int .i64 i] : Array Value).all (·.oneCell') = true := by simp [Value.oneCell']
    have kinf : (Tryz.prog.info? 177).map (·.size) = some (#[.int .i64 s, .int .i64 p, .int .i64 i] : Array Value).size := by kernel_rfl
    have Kall := Lib.hid kall
    have Kinf := Lib.hid kinf
    have Hg := Lib.hid hg
    clear kall kinf hg
    go_wp2_with (refine wpList_store_row rfl 177 (.tmp 2) (.tmp 12) rfl w.heap.size #[.int .i64 s, .int .i64 p, .int .i64 i] rfl rfl 177 _ Hg.out Kinf.out rfl Kall.out ?_)
    refine bodyPost_ret (results_cell_row rfl _ _ w.heap.size 177 #[.int .i64 s, .int .i64 p, .int .i64 i] (0, 0) _ rfl (setRow_heap _ _ _ _ _ _ Hg.out) Tryz.underlying177 rfl (by kernel_rfl)) rfl ?_
    exact ⟨rfl, setRow_below (((Below.refl w.heap.size w).alloc (Nat.le_refl _) _).trans (hb.mono (by simp))) (Nat.le_refl _) _⟩
end Go.Proofs.YtilennmeiaehnaaGreat

/- Chapter 18: which values may be. -/
namespace Go.Proofs.YtilennmeiaehnaaGreat
open Go.RowKit Tt
set_option linter.unusedVariables false

def textB : List Int → Bool
  | [] => true
  | [x] => x == 0
  | x :: y :: r => (x != 0) && textB (y :: r)
theorem textB_iff : ∀ l : List Int, textB l = true ↔ ∀ i, i < l.length → (l.getD i 0 = 0 ↔ i + 1 = l.length)
  | [] => by simp [textB]
  | [x] => by
    simp only [textB, beq_iff_eq, List.length_cons, List.length_nil]
    refine ⟨fun h i hi => ?_, fun h => ?_⟩
    · obtain rfl : i = 0 := by omega
      simp [h]
    · have := h 0 (by omega)
      simpa using this
  | x :: y :: r => by
    have ih := textB_iff (y :: r)
    simp only [textB, Bool.and_eq_true, bne_iff_ne, ne_eq]
    rw [ih]
    refine ⟨fun ⟨h0, h⟩ i hi => ?_, fun h => ⟨?_, fun i hi => ?_⟩⟩
    · cases i with
      | zero => simp [h0]
      | succ i =>
        rw [List.getD_cons_succ, h i (by simpa using hi)]
        simp
    · have := h 0 (by simp)
      simpa using this
    · have := h (i + 1) (by simpa using hi)
      rw [List.getD_cons_succ] at this
      rw [this]
      simp
theorem byte_zero {x : Int} (h : 0 ≤ x ∧ x < 256) : (UInt8.ofNat x.toNat == (0 : Int).toNat.toUInt8) = (x == 0) := by
  rw [Bool.eq_iff_iff, beq_iff_eq, beq_iff_eq]
  constructor
  · intro h2
    have h3 := congrArg UInt8.toNat h2
    simp [Nat.mod_eq_of_lt (show x.toNat < 256 by omega)] at h3
    omega
  · rintro rfl; rfl
theorem textB_idx : ∀ l : List Int, Byt l → (Lib.indexByte (Lib.bytesOf l) (0 : Int).toNat.toUInt8 = (l.length : Int) - 1 ↔ textB l = true)
  | [], _ => by simp [Lib.bytesOf, Lib.indexByte, textB]
  | [x], h => by
    have hx := byte_zero (h x (by simp))
    simp only [Lib.bytesOf, List.map_cons, List.map_nil, Lib.indexByte, textB, hx]
    cases hc : x == 0 <;> simp
  | x :: y :: r, h => by
    have hx := byte_zero (h x (by simp))
    have ih := textB_idx (y :: r) (fun z hz => h z (List.mem_cons_of_mem _ hz))
    have hg := Lib.indexByte_ge (Lib.bytesOf (y :: r)) (0 : Int).toNat.toUInt8
    have e : Lib.indexByte (Lib.bytesOf (x :: y :: r)) (0 : Int).toNat.toUInt8 = if (x == 0) = true then 0 else if Lib.indexByte (Lib.bytesOf (y :: r)) (0 : Int).toNat.toUInt8 == -1 then -1 else Lib.indexByte (Lib.bytesOf (y :: r)) (0 : Int).toNat.toUInt8 + 1 := by
      rw [← hx]; rfl
    rw [e]
    simp only [textB, Bool.and_eq_true, bne_iff_ne, ne_eq, ← ih]
    generalize Lib.indexByte (Lib.bytesOf (y :: r)) (0 : Int).toNat.toUInt8 = k at *
    have hl : ((x :: y :: r).length : Int) = ((y :: r).length : Int) + 1 := by simp
    have hl2 : (1 : Int) ≤ ((y :: r).length : Int) := by simp; omega
    rw [hl]
    generalize ((y :: r).length : Int) = n at *
    by_cases h0 : x = 0
    · simp [h0]; omega
    · by_cases h1 : k = -1
      · simp [h0, h1]; omega
      · simp [h0, h1]; omega

/-- whether a value may be -/
def mayS (ty cnt : Int) (d : List Int) : Bool :=
  decide ((kindS ty).1 ≠ 0) && decide (1 ≤ cnt) && decide (cnt ≤ 65536) && decide ((d.length : Int) = cnt * (kindS ty).1) && (ty != 2 || textB d)
theorem may_no {ty cnt : Int} {d : List Int} (h : (kindS ty).1 = 0 ∨ cnt < 1 ∨ 65536 < cnt ∨ (d.length : Int) ≠ cnt * (kindS ty).1) : mayS ty cnt d = false := by
  unfold mayS
  rcases h with h | h | h | h
  · simp [h]
  · rw [decide_eq_false (show ¬ 1 ≤ cnt by omega)]; simp
  · rw [decide_eq_false (show ¬ cnt ≤ 65536 by omega)]; simp
  · rw [decide_eq_false h]; simp
theorem may_else {ty cnt : Int} {d : List Int} (h1 : (kindS ty).1 ≠ 0) (h2 : ¬ cnt < 1) (h3 : ¬ 65536 < cnt) (h4 : (d.length : Int) = cnt * (kindS ty).1) : mayS ty cnt d = (ty != 2 || textB d) := by
  unfold mayS
  rw [decide_eq_true h1, decide_eq_true (show 1 ≤ cnt by omega), decide_eq_true (show cnt ≤ 65536 by omega), decide_eq_true h4]
  simp

set_option maxHeartbeats 4000000 in
theorem may_any (ty cnt : Int) (a : Option Addr) (n c : Nat) (d : List Int) (w : World) (hs : Sl w a n c 1 (ints .u8 d)) (bd : Byt d) :
    Calls Tryz.prog 107 #[.agg #[.int .i64 ty, .int .i64 cnt, .slice a n c]] w fun e w' => e = .returned (.bool (mayS ty cnt d)) ∧ Below w.heap.size w w' := by
  have hl := hs.ilen
  obtain ⟨m, hm⟩ : ∃ m, mayS ty cnt d = m := ⟨_, rfl⟩
  rw [hm]
  have Hm := Lib.hid hm
  have Hs := Lib.hid hs
  have Hl := Lib.hid hl
  have Bd := Lib.hid bd
  have hsz := kindS_size ty
  have hmx := hs.max
  have hle := hs.le
  clear hm hs hl bd
  obtain ⟨sz, pt, is, hk⟩ : ∃ s p i, kindS ty = (s, p, i) := ⟨_, _, _, rfl⟩
  rw [hk] at hsz
  simp only at hsz
  have Hk := Lib.hid hk
  clear hk
  have hkc := fun W => kind_any ty W
  rw [Hk.out] at hkc
  simp only at hkc
  go_enter Tryz.func107, Tryz.ntmps107
  go_wp2_with fail
  refine (hkc _).mono ?_
  rintro e w1 ⟨rfl, hb⟩
  have hb1 : Below w.heap.size w w1 := ((Below.refl w.heap.size w).alloc (Nat.le_refl _) _).trans (hb.mono (by simp))
  obtain ⟨g, hg⟩ : ∃ g, g = w.heap.size := ⟨_, rfl⟩
  have hblk : w1.heap[g]? = some (.cells #[.int .i64 ty, .int .i64 cnt, .slice a n c] 76) := by rw [hg]; exact (hb.block w.heap.size (by simp)).trans (heap_new w _)
  have hlt : g < w1.heap.size := (Array.getElem?_eq_some_iff.1 hblk).1
  have c0 : w1.cell? ⟨g, 0, none⟩ = some (.int .i64 ty) := by unfold World.cell?; rw [hblk]; rfl
  have c1 : w1.cell? ⟨g, 1, none⟩ = some (.int .i64 cnt) := by unfold World.cell?; rw [hblk]; rfl
  have c2 : w1.cell? ⟨g, 2, none⟩ = some (.slice a n c) := by unfold World.cell?; rw [hblk]; rfl
  have Hs1 := Lib.hid (Hs.out.mono hb1)
  rw [← hg]
  have HG := Lib.hid hg
  have HB := Lib.hid hb1
  clear hb hb1 hg hblk hkc
  by_cases t1 : sz = 0
  · subst t1
    obtain rfl : m = false := by rw [← Hm.out]; exact may_no (.inl (by rw [Hk.out]))
    go_wp2
    go_ret
    exact ⟨rfl, HB.out.alloc HB.out.size _⟩
  by_cases t2 : cnt < 1
  · obtain rfl : m = false := by rw [← Hm.out]; exact may_no (.inr (.inl t2))
    go_wp2
    go_ret
    exact ⟨rfl, HB.out.alloc HB.out.size _⟩
  by_cases t3 : 65536 < cnt
  · obtain rfl : m = false := by rw [← Hm.out]; exact may_no (.inr (.inr (.inl t3)))
    go_wp2
    go_ret
    exact ⟨rfl, HB.out.alloc HB.out.size _⟩
  have hw : IntKind.i64.wrap (cnt * sz) = cnt * sz := by
    have : 0 ≤ cnt * sz := Int.mul_nonneg (by omega) (by omega)
    have : cnt * sz ≤ 65536 * 8 := Int.mul_le_mul (by omega) (by omega) (by omega) (by omega)
    rw [IntKind.wrap_i64]; omega
  have f1 : (sz == 0) = false := by simp [t1]
  by_cases t4 : (n : Int) = cnt * sz
  · have hmm := may_else (ty := ty) (cnt := cnt) (d := d) (by rw [Hk.out]; exact t1) t2 t3 (by rw [Hl.out, Hk.out]; exact t4)
    rw [Hm.out] at hmm
    have Hmm := Lib.hid hmm
    have f4 : ((n : Int) != cnt * sz) = false := by simp [t4]
    clear hmm t4
    by_cases t5 : ty = 2
    · subst t5
      have hti := (textB_idx d Bd.out)
      rw [Hl.out] at hti
      have hi := fun j => (indexbyte_any a n c d 0 ((w1.alloc (.cells #[.int .i64 sz, .int .i64 pt, .int .i64 is] 177)).drewN j) (sl_alloc Hs1.out _).drewN).mono (fun e w' (h : _ ∧ _) => (⟨h.1, by rw [← h.2]; exact Qt.refl _⟩ : _ ∧ Qt _ w'))
      obtain ⟨k, hkk⟩ : ∃ k, Lib.indexByte (Lib.bytesOf d) (0 : Int).toNat.toUInt8 = k := ⟨_, rfl⟩
      rw [hkk] at hti hi
      have hk2 := Lib.indexByte_ge (Lib.bytesOf d) (0 : Int).toNat.toUInt8
      rw [hkk] at hk2
      have hmk : m = (k == (n : Int) - 1) := by
        rw [Hmm.out, Bool.eq_iff_iff, beq_iff_eq, hti]
        simp
      have Hmk := Lib.hid hmk
      have Hi := Lib.hid hi
      clear hti hkk hi hmk
      go_wp2_with fail
      go_quiet ((go_at_call 146; exact Calls.quiet_of (Hi.out _)))
      go_wp2
      go_ret
      exact ⟨ret_bool Hmk.out.symm, (HB.out.alloc HB.out.size _).trans (Qt.below ⟨_, rfl⟩ _)⟩
    · have f5 : (ty == 2) = false := by simp [t5]
      have f6 : (ty != 2) = true := by simp [t5]
      have hmm : m = true := by rw [Hmm.out, f6]; rfl
      subst hmm
      go_wp2_with fail
      go_quiet (fail)
      go_wp2
      go_ret
      exact ⟨rfl, (HB.out.alloc HB.out.size _).trans (Qt.below ⟨_, rfl⟩ _)⟩
  · obtain rfl : m = false := by rw [← Hm.out]; exact may_no (.inr (.inr (.inr (by rw [Hl.out, Hk.out]; exact t4))))
    have f4 : ((n : Int) != cnt * sz) = true := by simp [t4]
    go_wp2
    go_ret
    exact ⟨rfl, HB.out.alloc HB.out.size _⟩
end Go.Proofs.YtilennmeiaehnaaGreat
