/- Chapters 5, 6, 14 (plain): the zigzag; tables and heads as bytes. | Chapter 14 (plain): what bytes are read as; there and back. | Chapter 14 (plain): heads there and back. | More general words: a row that the call made and writes; a copy into it; bytes of a conversion. | A block of cells that is known whole (a struct variable). -/
import Derived.Test.YtpjopeojeglogaaCd00
import Derived.Laws.CopyOwn
import Derived.ArgAppend
import Derived.Laws.ResultCell
import Derived.Laws.Rows
import Derived.StillTail
import Derived.StillTailTactics
import Derived.BigQuiet
import Derived.Deep.RegionLaw
import Derived.Deep.CutRange
import Derived.Deep.Cut
import Derived.BigRegion
import Derived.Lib.SliceRun
namespace Go.Proofs.Ytpjopeojeglogaa
open Go.RowKit Tt
set_option linter.unusedVariables false

/-- the places of a block as the zigzag goes over them; and of each place its step -/
def zzL : List Nat := [0, 1, 8, 16, 9, 2, 3, 10, 17, 24, 32, 25, 18, 11, 4, 5, 12, 19, 26, 33, 40, 48, 41, 34, 27, 20, 13, 6, 7, 14, 21, 28, 35, 42, 49, 56, 57, 50, 43, 36, 29, 22, 15, 23, 30, 37, 44, 51, 58, 59, 52, 45, 38, 31, 39, 46, 53, 60, 61, 54, 47, 55, 62, 63]
def zzI : List Nat := (List.range 64).map fun i => zzL.idxOf i
theorem zzL_len : zzL.length = 64 := rfl
theorem zzI_len : zzI.length = 64 := by simp [zzI]
theorem zz_lt : ∀ i, i < 64 → zzL.getD i 0 < 64 ∧ zzI.getD i 0 < 64 ∧ zzI.getD (zzL.getD i 0) 0 = i ∧ zzL.getD (zzI.getD i 0) 0 = i := by decide +kernel
/-- a block in zigzag order, and back -/
def toZ (t : List Int) : List Int := zzL.map fun i => t.getD i 0
def frZ (t : List Int) : List Int := zzI.map fun i => t.getD i 0
theorem toZ_len (t : List Int) : (toZ t).length = 64 := by simp [toZ, zzL_len]
theorem frZ_len (t : List Int) : (frZ t).length = 64 := by simp [frZ, zzI_len]
theorem toZ_get (t : List Int) {i : Nat} (h : i < 64) : (toZ t).getD i 0 = t.getD (zzL.getD i 0) 0 := by
  unfold toZ; simp only [List.getD_eq_getElem?_getD, List.getElem?_map]; rw [List.getElem?_eq_getElem (show i < zzL.length by rw [zzL_len]; exact h)]
  rfl
theorem frZ_get (t : List Int) {i : Nat} (h : i < 64) : (frZ t).getD i 0 = t.getD (zzI.getD i 0) 0 := by
  unfold frZ; simp only [List.getD_eq_getElem?_getD, List.getElem?_map]; rw [List.getElem?_eq_getElem (show i < zzI.length by rw [zzI_len]; exact h)]
  rfl
theorem ext64 {x y : List Int} (hx : x.length = 64) (hy : y.length = 64) (h : ∀ i, i < 64 → x.getD i 0 = y.getD i 0) : x = y := by
  apply List.ext_getElem (by omega)
  intro i h1 h2; have := h i (by omega)
  rwa [List.getD_eq_getElem?_getD, List.getElem?_eq_getElem h1, List.getD_eq_getElem?_getD, List.getElem?_eq_getElem h2] at this
theorem toZ_frZ {t : List Int} (h : t.length = 64) : toZ (frZ t) = t :=
  ext64 (toZ_len _) h fun i hi => by rw [toZ_get _ hi, frZ_get _ (zz_lt i hi).1, (zz_lt i hi).2.2.1]
theorem mem_get {t : List Int} {x : Int} (h : x ∈ t) : ∃ i, i < t.length ∧ t.getD i 0 = x := by
  obtain ⟨i, hi, rfl⟩ := List.mem_iff_getElem.1 h; exact ⟨i, hi, by rw [List.getD_eq_getElem?_getD, List.getElem?_eq_getElem hi]; rfl⟩
theorem get_mem {t : List Int} {i : Nat} (h : i < t.length) : t.getD i 0 ∈ t := by
  rw [List.getD_eq_getElem?_getD, List.getElem?_eq_getElem h]; exact List.getElem_mem h
/-- are all numbers of a block from one to another one? -/
def within (t : List Int) (lo hi : Int) : Bool := t.all fun x => decide (lo ≤ x ∧ x ≤ hi)
/-- a quantisation table: its number, its block -/
abbrev Qt64 := Int × List Int
def qOk (q : Qt64) : Bool := decide (0 ≤ q.1 ∧ q.1 ≤ 3) && within q.2 1 255
def qW (q : Qt64) : List Int := q.1 :: toZ q.2
/-- a table of codes: class, number, counts, symbols -/
abbrev Cdr := Int × Int × List Int × List Int
def cOk (c : Cdr) : Bool := decide (0 ≤ c.1 ∧ c.1 ≤ 1) && decide (0 ≤ c.2.1 ∧ c.2.1 ≤ 3) && hMay c.2.2.1 c.2.2.2 && c.2.2.1.all (fun n => decide (n ≤ 255))
def cW (c : Cdr) : List Int := (16 * c.1 + c.2.1) :: (c.2.2.1 ++ c.2.2.2)
/-- some tables' bytes, if there is one, and all may be -/
def allW {α : Type} (ok : α → Bool) (f : α → List Int) (l : List α) : Option (List Int) := if l.all ok = true ∧ l ≠ [] then some ((l.map f).flatten) else none
/-- numbers of planes: 1 to 4, unlike bytes -/
def idOk (s : List Int) : Bool := (List.range s.length).all (symOk s) && decide (1 ≤ s.length ∧ s.length ≤ 4)
/-- a plane of a frame: number, factors, table -/
abbrev Cmp4 := Int × Int × Int × Int
def cmpOk (c : Cmp4) : Bool := decide (1 ≤ c.2.1 ∧ c.2.1 ≤ 4 ∧ 1 ≤ c.2.2.1 ∧ c.2.2.1 ≤ 4 ∧ 0 ≤ c.2.2.2 ∧ c.2.2.2 ≤ 3)
def frmE (w h : Int) (l : List Cmp4) : Int := if l.all cmpOk && idOk (l.map (·.1)) then (if 1 ≤ w ∧ w ≤ 4096 ∧ 1 ≤ h ∧ h ≤ 4096 then 0 else 7) else 2
def frmW (w h : Int) (l : List Cmp4) : List Int := [8, h / 256, h % 256, w / 256, w % 256, l.length] ++ (l.map fun c => [c.1, 16 * c.2.1 + c.2.2.1, c.2.2.2]).flatten
/-- a plane of a scan: number, numbers of its codes -/
abbrev Use3 := Int × Int × Int
def useOk (u : Use3) : Bool := decide (0 ≤ u.2.1 ∧ u.2.1 ≤ 3 ∧ 0 ≤ u.2.2 ∧ u.2.2 ≤ 3)
def usesOk (l : List Use3) : Bool := l.all useOk && idOk (l.map (·.1))
def headW (l : List Use3) : List Int := (l.length : Int) :: (l.map fun u => [u.1, 16 * u.2.1 + u.2.2]).flatten ++ [0, 63, 0]
end Go.Proofs.Ytpjopeojeglogaa

namespace Go.Proofs.Ytpjopeojeglogaa
open Go.RowKit Tt
set_option linter.unusedVariables false

/-- what bytes are, one behind the other, to the end: the error, and the rows -/
def readAll {α : Type} (take : List Int → Int × α × Nat) : Nat → List Int → Int × List α
  | 0, _ => (3, [])
  | f + 1, b => if (take b).1 = 0 then (if b.length ≤ (take b).2.2 then (0, [(take b).2.1]) else (if (readAll take f (b.drop (take b).2.2)).1 = 0 then (0, (take b).2.1 :: (readAll take f (b.drop (take b).2.2)).2) else ((readAll take f (b.drop (take b).2.2)).1, []))) else ((take b).1, [])
def takeQ (b : List Int) : Int × Qt64 × Nat :=
  if b.length < 65 then (3, (0, []), 0) else if qOk (b.getD 0 0, frZ ((b.drop 1).take 64)) then (0, (b.getD 0 0, frZ ((b.drop 1).take 64)), 65) else (2, (0, []), 0)
def manyB (b : List Int) : Nat := (manyS ((b.drop 1).take 16) 16).toNat
def cOf (b : List Int) : Cdr := (b.getD 0 0 / 16, b.getD 0 0 % 16, (b.drop 1).take 16, (b.drop 17).take (manyB b))
def takeC (b : List Int) : Int × Cdr × Nat :=
  if b.length < 17 then (3, (0, 0, [], []), 0) else if b.length < 17 + manyB b then (3, (0, 0, [], []), 0) else if cOk (cOf b) then (0, cOf b, 17 + manyB b) else (2, (0, 0, [], []), 0)

theorem readAll_of {α : Type} {take : List Int → Int × α × Nat} {ok : α → Prop} {f : α → List Int} (ht : ∀ b x k, take b = (0, x, k) → ok x ∧ k ≤ b.length ∧ f x = b.take k) :
    ∀ (n : Nat) (b : List Int) (l : List α), readAll take n b = (0, l) → l ≠ [] ∧ (∀ x ∈ l, ok x) ∧ (l.map f).flatten = b
  | 0, b, l, h => by simp [readAll] at h
  | n + 1, b, l, h => by
    unfold readAll at h
    by_cases h1 : (take b).1 = 0
    · rw [if_pos h1] at h
      obtain ⟨k1, k2, k3⟩ := ht b (take b).2.1 (take b).2.2 (by rw [← h1])
      by_cases h2 : b.length ≤ (take b).2.2
      · rw [if_pos h2] at h
        obtain rfl := (Prod.mk.inj h).2; refine ⟨by simp, by simpa using k1, ?_⟩; simp only [List.map_cons, List.map_nil, List.flatten_cons, List.flatten_nil, List.append_nil]; rw [k3, List.take_of_length_le h2]
      · rw [if_neg h2] at h
        by_cases h3 : (readAll take n (b.drop (take b).2.2)).1 = 0
        · rw [if_pos h3] at h
          obtain rfl := (Prod.mk.inj h).2; obtain ⟨m1, m2, m3⟩ := readAll_of ht n _ (readAll take n (b.drop (take b).2.2)).2 (by rw [← h3]); refine ⟨by simp, fun x hx => ?_, ?_⟩
          · rcases List.mem_cons.1 hx with rfl | hx
            · exact k1
            · exact m2 x hx
          · rw [List.map_cons, List.flatten_cons, m3, k3, List.take_append_drop]
        · rw [if_neg h3] at h
          exact absurd (Prod.mk.inj h).1 h3
    · rw [if_neg h1] at h
      exact absurd (Prod.mk.inj h).1 h1

theorem takeQ_of {b : List Int} {q : Qt64} {k : Nat} (h : takeQ b = (0, q, k)) : (qOk q = true ∧ q.2.length = 64) ∧ k ≤ b.length ∧ qW q = b.take k := by
  unfold takeQ at h
  split at h
  · cases h
  · rename_i h1
    split at h
    · rename_i h2
      obtain ⟨_, h4⟩ := Prod.mk.inj h; obtain ⟨rfl, rfl⟩ := Prod.mk.inj h4; refine ⟨⟨h2, frZ_len _⟩, by omega, ?_⟩; unfold qW; rw [toZ_frZ (by rw [List.length_take, List.length_drop]; omega)]
      cases b with
      | nil => simp at h1
      | cons x b => simp
    · cases h

theorem hMay_parts {c s : List Int} (h : hMay c s = true) : (∀ i, i < 16 → cntOk c i = true) ∧ (∀ i, i < s.length → symOk s i = true) ∧ manyS c 16 = s.length ∧ 1 ≤ manyS c 16 ∧ kraftS c 16 < 65536 := by
  unfold hMay endOk at h; simp only [Bool.and_eq_true, decide_eq_true_eq] at h; exact ⟨range_all h.1.1, range_all h.1.2, h.2⟩
theorem takeC_of {b : List Int} {c : Cdr} {k : Nat} (h : takeC b = (0, c, k)) : (cOk c = true ∧ c.2.2.1.length = 16) ∧ k ≤ b.length ∧ cW c = b.take k := by
  unfold takeC at h
  split at h
  · cases h
  · rename_i h0
    split at h
    · cases h
    · rename_i h1
      split at h
      · rename_i h2
        obtain ⟨_, h4⟩ := Prod.mk.inj h; obtain ⟨rfl, rfl⟩ := Prod.mk.inj h4; refine ⟨⟨h2, by show ((b.drop 1).take 16).length = 16; rw [List.length_take, List.length_drop]; omega⟩, by omega, ?_⟩
        cases b with
        | nil => simp at h0
        | cons x b =>
          show (16 * (x / 16) + x % 16) :: (b.take 16 ++ (b.drop 16).take (manyB (x :: b))) = (x :: b).take (17 + manyB (x :: b))
          rw [show 16 * (x / 16) + x % 16 = x by omega, show 17 + manyB (x :: b) = (16 + manyB (x :: b)) + 1 by omega, List.take_succ_cons, List.take_add]
      · cases h
/-- a frame's bytes: the error, and the frame -/
def cmpsOf : Nat → List Int → List Cmp4
  | 0, _ => []
  | n + 1, b => (b.getD 0 0, b.getD 1 0 / 16, b.getD 1 0 % 16, b.getD 2 0) :: cmpsOf n (b.drop 3)
def nB (b : List Int) (i : Nat) : Nat := (b.getD i 0).toNat
def rfS (b : List Int) : Int × Int × Int × List Cmp4 :=
  if b.length < 6 then (3, 0, 0, []) else if b.getD 0 0 ≠ 8 then (2, 0, 0, []) else if b.length < 6 + 3 * nB b 5 then (3, 0, 0, []) else if 6 + 3 * nB b 5 < b.length then (2, 0, 0, [])
  else if frmE (256 * b.getD 3 0 + b.getD 4 0) (256 * b.getD 1 0 + b.getD 2 0) (cmpsOf (nB b 5) (b.drop 6)) = 0 then (0, 256 * b.getD 3 0 + b.getD 4 0, 256 * b.getD 1 0 + b.getD 2 0, cmpsOf (nB b 5) (b.drop 6))
  else (frmE (256 * b.getD 3 0 + b.getD 4 0) (256 * b.getD 1 0 + b.getD 2 0) (cmpsOf (nB b 5) (b.drop 6)), 0, 0, [])
def usesOf : Nat → List Int → List Use3
  | 0, _ => []
  | n + 1, b => (b.getD 0 0, b.getD 1 0 / 16, b.getD 1 0 % 16) :: usesOf n (b.drop 2)
def rhS (b : List Int) : Int × List Use3 :=
  if b.length < 1 ∨ b.length < 4 + 2 * nB b 0 then (3, []) else if usesOk (usesOf (nB b 0) (b.drop 1)) && (b.drop (1 + 2 * nB b 0) == [0, 63, 0]) then (0, usesOf (nB b 0) (b.drop 1)) else (2, [])
end Go.Proofs.Ytpjopeojeglogaa

namespace Go.Proofs.Ytpjopeojeglogaa
open Go.RowKit Tt
set_option linter.unusedVariables false
set_option linter.unusedSimpArgs false

theorem cmpsOf_len : ∀ n b, (cmpsOf n b).length = n
  | 0, _ => rfl
  | n + 1, b => by simp [cmpsOf, cmpsOf_len n]
theorem frmE_ok {w h : Int} {l : List Cmp4} (hf : frmE w h l = 0) : l.all cmpOk = true ∧ idOk (l.map (·.1)) = true ∧ 1 ≤ w ∧ w ≤ 4096 ∧ 1 ≤ h ∧ h ≤ 4096 := by
  unfold frmE at hf
  split at hf
  · rename_i h1
    simp only [Bool.and_eq_true] at h1
    split at hf
    · rename_i h2; exact ⟨h1.1, h1.2, h2⟩
    · cases hf
  · cases hf
theorem idOk_len {l : List Int} (h : idOk l = true) : 1 ≤ l.length ∧ l.length ≤ 4 := by
  unfold idOk at h; simp only [Bool.and_eq_true, decide_eq_true_eq] at h; exact h.2
theorem usesOf_len : ∀ n b, (usesOf n b).length = n
  | 0, _ => rfl
  | n + 1, b => by simp [usesOf, usesOf_len n]
theorem usesOk_parts {l : List Use3} (h : usesOk l = true) : l.all useOk = true ∧ 1 ≤ l.length ∧ l.length ≤ 4 := by
  unfold usesOk at h; simp only [Bool.and_eq_true] at h; have := idOk_len h.2; rw [List.length_map] at this; exact ⟨h.1, this⟩
end Go.Proofs.Ytpjopeojeglogaa

namespace Tt
open Go Go.RowKit

/-- Block g is a row of one-cell elements of type E, holding the numbers 'l'. -/
def Row (w : World) (g : Nat) (E : TypeId) (k : IntKind) (l : List Int) : Prop := w.heap[g]? = some (.cells (ints k l).toArray E (0, 0))
theorem Row.own {w : World} {g B : Nat} {E : TypeId} {k : IntKind} {l : List Int} {n : Nat} (h : Row w g E k l) (hl : l.length = n) (hB : B ≤ g) (hm : n ≤ maxLen) : w.ownsRow B E 1 (.slice (some ⟨g, 0, none⟩) n n) n (ints k l) :=
  ⟨by rw [ints_len, hl, Nat.mul_one], .inr ⟨g, n, _, rfl, hB, h, Nat.le_refl _, hm, by simp [ints_len, hl], by simp; rw [List.take_of_length_le (by rw [ints_len, hl]; exact Nat.le_refl _)]⟩⟩
theorem Row.of_own {w : World} {g B : Nat} {E : TypeId} {k : IntKind} {l : List Int} {n : Nat} (h : w.ownsRow B E 1 (.slice (some ⟨g, 0, none⟩) n n) n (ints k l)) : Row w g E k l := by
  rcases h.2 with ⟨hv, _⟩ | ⟨g', cap, cur, hv, _, hg, _, _, hcs, htk⟩
  · cases hv
  · injection hv with h1 h2 h3
    injection h1 with h1; injection h1 with h1; subst h1 h3; unfold Row; rw [hg, ← htk, List.take_of_length_le (by rw [Array.length_toList, hcs]; exact Nat.le_refl _)]
theorem Row.cell {w : World} {g : Nat} {E : TypeId} {k : IntKind} {l : List Int} (h : Row w g E k l) {i : Nat} (hi : i < l.length) : w.cell? ⟨g, i, none⟩ = some (.int k (l.getD i 0)) := by
  unfold World.cell?; rw [h]
  simpa using ints_get (k := k) hi
theorem Row.frozen {w : World} {g : Nat} {E : TypeId} {k : IntKind} {l : List Int} (h : Row w g E k l) (i : Nat) : w.frozen? ⟨g, i, none⟩ = false := by
  unfold World.frozen?; rw [h]
  simp
theorem Row.set {w : World} {g : Nat} {E : TypeId} {k : IntKind} {l : List Int} (h : Row w g E k l) (i : Nat) (v : Int) : Row (w.setCell ⟨g, i, none⟩ (.int k v)) g E k (l.set i v) := by
  unfold Row at *
  simp [World.setCell, Array.getElem?_modify, h, ints, List.map_set]
theorem Sl.new' {b : Nat} (w : World) (E : TypeId) (sz n : Nat) (cur : Array Value) (fz : Nat × Nat) (hb : b = w.heap.size) (hn : n ≤ 9223372036854775807) (hs : cur.size = n * sz) :
    Sl (w.alloc (.cells cur E fz)) (some ⟨b, 0, none⟩) n n sz cur.toList := by rw [hb]; exact Sl.new w E sz n cur fz hn hs

section
variable {P : Program} {w : World} {ops : Array Oper} {rest : List Oper} {o : Oper} {a : Act} {Q : Exit → Act → World → Prop}
/-- An operation that is wanted, guarded or not. -/
theorem wpList_want (hw : Region.wanted o (yielded ops a.tmps) = true) (h : ∀ K : Act → World → Prop, (∀ a w, wpList P ops Q rest a w → K a w) → o.wp P a w K Q) : wpList P ops Q (o :: rest) a w :=
  wpList_step fun K hK => by rw [if_pos hw]; exact h K hK

end
end Tt

namespace Tt
open Go Go.RowKit
set_option linter.unusedVariables false

def Blk (w : World) (g : Nat) (T : TypeId) (cs : Array Value) : Prop := w.heap[g]? = some (.cells cs T (0, 0))
theorem Blk.lt {w : World} {g : Nat} {T : TypeId} {cs : Array Value} (h : Blk w g T cs) : g < w.heap.size := (Array.getElem?_eq_some_iff.1 h).1
theorem Blk.cell {w : World} {g : Nat} {T : TypeId} {cs : Array Value} (h : Blk w g T cs) {i : Nat} {v : Value} (hv : cs[i]? = some v) : w.cell? ⟨g, i, none⟩ = some v := by
  unfold World.cell?; rw [h]
  simpa using hv
theorem Blk.frozen {w : World} {g : Nat} {T : TypeId} {cs : Array Value} (h : Blk w g T cs) (i : Nat) : w.frozen? ⟨g, i, none⟩ = false := by
  unfold World.frozen?; rw [h]
  simp
theorem Blk.mono {B : Nat} {w w' : World} {g : Nat} {T : TypeId} {cs : Array Value} (h : Blk w g T cs) (hb : Below B w w') (hg : g < B) : Blk w' g T cs := (hb.block g hg).trans h
theorem Blk.late {w w' : World} {g : Nat} {T : TypeId} {cs : Array Value} (h : Blk w g T cs) (hb : Below w.heap.size w w') : Blk w' g T cs := h.mono hb h.lt
theorem Blk.set {w : World} {g : Nat} {T : TypeId} {cs : Array Value} (h : Blk w g T cs) (i : Nat) (v : Value) : Blk (w.setCell ⟨g, i, none⟩ v) g T (cs.setIfInBounds i v) := by
  unfold Blk at *
  simp [World.setCell, Array.getElem?_modify, h]
theorem Blk.set_other {w : World} {g g' : Nat} {T : TypeId} {cs : Array Value} (h : Blk w g T cs) (hne : g ≠ g') (i : Nat) (v : Value) : Blk (w.setCell ⟨g', i, none⟩ v) g T cs :=
  (Below.heap_setCell w ⟨g', i, none⟩ v g hne).trans h
theorem Blk.new (w : World) (T : TypeId) (cs : Array Value) : Blk (w.alloc (.cells cs T (0, 0))) w.heap.size T cs := heap_new w _
theorem Blk.alloc {w : World} {g : Nat} {T : TypeId} {cs : Array Value} (h : Blk w g T cs) (o : Obj) : Blk (w.alloc o) g T cs := (heap_old w o h.lt).trans h
theorem own_set_other {w : World} {B : Nat} {E : TypeId} {sz : Nat} {v : Value} {n : Nat} {xs : List Value} (h : w.ownsRow B E sz v n xs) {g : Nat} (hg : g < B) (i : Nat) (u : Value) : (w.setCell ⟨g, i, none⟩ u).ownsRow B E sz v n xs :=
  own_above h fun k hk _ => Below.heap_setCell w ⟨g, i, none⟩ u k (by show k ≠ g; omega)
theorem results_blk_tmp {P : Program} {fn : Func} {p u : Tmp} {ty : TypeId} (h : fn.results = #[.cell p ty, .tmp u]) (tmps : Array Value) (w : World) (g : Nat) (t : TypeId) (cs : Array Value) (d : TypeDesc)
    (hp : tmps.getD p undef = .pointer (some ⟨g, 0, none⟩)) (hg : Blk w g t cs)
    (hu : P.underlying ty = some d) (hd : (match d with | .struct _ | .array _ _ => true | _ => false) = true) (hi : (P.info? ty).map (·.size) = some cs.size) :
    (results fn tmps).run P w = .ok (.tuple #[.agg cs, tmps.getD u undef]) w := by
  rw [results_cell_tmp h, hp]
  simp [asAddr, Result.andThen, run_loadVar_row w g t ty cs (0, 0) d hg hu hd hi]
/-- A drawn region whose operations yield the same values in every world of a class, and leave it. -/
theorem wp_quiet_in {P : Program} {S : Type} (f : S → World) {id : Nat} {Q : Exit → Act → World → Prop} {a : Act} {w : World} {l : List Oper} (hm : P.follows .mixedOrders = true) (hB : Region.lexB .any l.toArray = true)
    (hC : ∃ s, w.drew = f s) (h : wpQuiet P l.toArray (fun W => ∃ s, W = f s) (fun a' => ∀ s, Q .normal a' (f s)) l a) : (Code.region id l.toArray true).wp P Q a w := by
  refine wp_region_quiet (C := fun W => ∃ s, W = f s) hm hB hC ?_
  have : (fun a' => ∀ s, Q .normal a' (f s)) = (fun a' => ∀ w', (∃ s, w' = f s) → Q .normal a' w') := by
    funext a'
    apply propext
    exact ⟨fun h w' ⟨s, e⟩ => e ▸ h s, fun h s => h _ ⟨s, rfl⟩⟩
  rw [this] at h
  simpa using h
theorem later_worlds (w : World) : ∃ (S : Type) (f : S → World), Nonempty S ∧ (∀ s, Below w.heap.size w (f s)) ∧ ∀ W, Below w.heap.size w W → ∃ s, W = f s :=
  ⟨{W // Below w.heap.size w W}, Subtype.val, ⟨⟨w, Below.refl _ _⟩⟩, fun s => s.2, fun W h => ⟨⟨W, h⟩, rfl⟩⟩
end Tt
