/- Chapter 22: what changes while a block is read: the walker's own blocks; rows that are kept; directories in memory. -/
import Derived.Test.YtheelhepelbgcaaWp
import Derived.Test.YtheelhepelbgcaaSh3
namespace Tt
open Go Go.RowKit
set_option linter.unusedVariables false

/-- of the old blocks no others have turned but g, gt and the one that sv lies in; sv' lies in that one or in a new one -/
structure Mv (g gt : Nat) (sv sv' : Value) (w w' : World) : Prop where
  os : w'.os = w.os
  tape : w'.tape = w.tape
  output : w'.output = w.output
  size : w.heap.size ≤ w'.heap.size
  block : ∀ k, k < w.heap.size → k ≠ g → k ≠ gt → sv.ownBlock ≠ some k → w'.heap[k]? = w.heap[k]?
  own : ∀ k, sv'.ownBlock = some k → sv.ownBlock = some k ∨ w.heap.size ≤ k
theorem Mv.refl (g gt : Nat) (sv : Value) (w : World) : Mv g gt sv sv w w := ⟨rfl, rfl, rfl, Nat.le_refl _, fun _ _ _ _ _ => rfl, fun _ h => .inl h⟩
theorem Mv.trans {g gt : Nat} {sv s1 s2 : Value} {w w1 w2 : World} (h : Mv g gt sv s1 w w1) (k : Mv g gt s1 s2 w1 w2) : Mv g gt sv s2 w w2 :=
  ⟨k.os.trans h.os, k.tape.trans h.tape, k.output.trans h.output, Nat.le_trans h.size k.size, fun i hi h1 h2 h3 =>
    (k.block i (Nat.lt_of_lt_of_le hi h.size) h1 h2 (fun e => by rcases h.own i e with e' | e' <;> first | exact h3 e' | omega)).trans (h.block i hi h1 h2 h3),
   fun i e => by
    rcases k.own i e with e' | e'
    · exact h.own i e'
    · exact .inr (Nat.le_trans h.size e')⟩
theorem Mv.of_below {g gt : Nat} {sv : Value} {w w' : World} (h : Below w.heap.size w w') : Mv g gt sv sv w w' :=
  ⟨h.os, h.tape, h.output, h.size, fun k hk _ _ _ => h.block k hk, fun _ e => .inl e⟩
theorem Mv.later {g gt : Nat} {sv s1 : Value} {w w1 w2 : World} (h : Mv g gt sv s1 w w1) (k : Below w1.heap.size w1 w2) : Mv g gt sv s1 w w2 := h.trans (Mv.of_below k)
theorem Mv.of_but {g gt b : Nat} {sv : Value} {w w' : World} (h : But b w w') (hb : b = g ∨ b = gt) : Mv g gt sv sv w w' :=
  ⟨h.os, h.tape, h.output, h.size, fun k hk h1 h2 _ => h.block k hk (by rintro rfl; rcases hb with rfl | rfl <;> contradiction), fun _ e => .inl e⟩
theorem Mv.of_grown {g gt : Nat} {sv sv' : Value} {w w' : World} (h : w.grownBy w' sv.ownBlock) (ho : ∀ k, sv'.ownBlock = some k → sv.ownBlock = some k ∨ w.heap.size ≤ k) : Mv g gt sv sv' w w' :=
  ⟨h.os, h.tape, h.output, h.size, fun k hk _ _ h3 => h.block k hk (Ne.symm h3), ho⟩
theorem Blk.grown {w w' : World} {row : Option Nat} {g : Nat} {T : TypeId} {cs : Array Value} (h : Blk w g T cs) (hg : w.grownBy w' row) (hne : row ≠ some g) : Blk w' g T cs := (hg.block g h.lt (Ne.symm hne)).trans h
theorem Mv.below {g gt B : Nat} {sv sv' : Value} {w w' : World} (h : Mv g gt sv sv' w w') (h1 : B ≤ g) (h2 : B ≤ gt) (h3 : ∀ k, sv.ownBlock = some k → B ≤ k) (h4 : B ≤ w.heap.size) : Below B w w' :=
  ⟨h.os, h.tape, h.output, h.size, fun k hk => h.block k (by omega) (by omega) (by omega) (fun e => by have := h3 k e; omega)⟩
/-- a row that is owned, in a block that X does not name -/
def Ck (X : Nat → Prop) (B : Nat) (w : World) (v : Value) (E : TypeId) (sz n : Nat) (xs : List Value) : Prop := w.ownsRow B E sz v n xs ∧ ∀ k, v.ownBlock = some k → ¬ X k
/-- what keeps the blocks from B on that X does not name -/
structure Kp (X X' : Nat → Prop) (B : Nat) (w w' : World) : Prop where
  size : w.heap.size ≤ w'.heap.size
  block : ∀ k, B ≤ k → k < w.heap.size → ¬ X k → w'.heap[k]? = w.heap[k]? ∧ ¬ X' k
theorem Ck.keep {X X' : Nat → Prop} {B : Nat} {w w' : World} {v : Value} {E : TypeId} {sz n : Nat} {xs : List Value} (h : Ck X B w v E sz n xs) (k : Kp X X' B w w') : Ck X' B w' v E sz n xs := by
  obtain ⟨⟨hl, hr⟩, hx⟩ := h
  rcases hr with hn | ⟨g, cap, cur, rfl, hB, hg, r⟩
  · exact ⟨⟨hl, .inl hn⟩, fun j e => by obtain ⟨rfl, _⟩ := hn; cases e⟩
  · have hlt : g < w.heap.size := (Array.getElem?_eq_some_iff.1 hg).1
    have hk := k.block g hB hlt (hx g rfl)
    exact ⟨⟨hl, .inr ⟨g, cap, cur, rfl, hB, hk.1.trans hg, r⟩⟩, fun j e => by
      have : g = j := by injection e
      subst this; exact hk.2⟩
theorem Ck.mono {X : Nat → Prop} {B B' : Nat} {w : World} {v : Value} {E : TypeId} {sz n : Nat} {xs : List Value} (h : Ck X B w v E sz n xs) (hB : B' ≤ B) : Ck X B' w v E sz n xs := ⟨own_mono h.1 hB, h.2⟩
theorem Ck.sl {X : Nat → Prop} {B : Nat} {w : World} {a : Option Addr} {n c sz m : Nat} {E : TypeId} {xs : List Value} (h : Ck X B w (.slice a n c) E sz m xs) : Sl w a n c sz xs := (Sl.of_own h.1).1
theorem Kp.later {X : Nat → Prop} {B : Nat} {w w' : World} (h : Below w.heap.size w w') : Kp X X B w w' := ⟨h.size, fun k _ hk hx => ⟨h.block k hk, hx⟩⟩
theorem Kp.mv {g gt B : Nat} {sv sv' : Value} {w w' : World} (h : Mv g gt sv sv' w w') (h1 : g < B) (h2 : gt < B) : Kp (fun k => sv.ownBlock = some k) (fun k => sv'.ownBlock = some k) B w w' :=
  ⟨h.size, fun k hB hk hx => ⟨h.block k hk (by omega) (by omega) hx, fun e => by rcases h.own k e with e' | e' <;> first | exact hx e' | omega⟩⟩
theorem Kp.same {X X' : Nat → Prop} {B : Nat} {w : World} (h : ∀ k, B ≤ k → k < w.heap.size → ¬ X k → ¬ X' k) : Kp X X' B w w := ⟨Nat.le_refl _, fun k hB hk hx => ⟨rfl, h k hB hk hx⟩⟩
end Tt
namespace Go.Proofs.Ytheelhepelbgcaa
open Go.RowKit Tt
set_option linter.unusedVariables false
set_option linter.unusedSimpArgs false

/-- what the cells of a tag hold, and its data -/
abbrev Tz := (Int × Int × Int × Option Addr × Nat × Nat) × List Int
abbrev tz0 : Tz := ((0, 0, 0, none, 0, 0), [])
def tagz (z : Tz) : Tgs := (z.1.1, z.1.2.1, z.1.2.2.1, z.2)
def tzc (z : Tz) : List Value := [.int .i64 z.1.1, .int .i64 z.1.2.1, .int .i64 z.1.2.2.1, .slice z.1.2.2.2.1 z.1.2.2.2.2.1 z.1.2.2.2.2.2]
theorem tzc_len (z : Tz) : (tzc z).length = 4 := rfl
theorem tzc_one (z : Tz) : ∀ u ∈ tzc z, u.oneCell' = true := by
  intro u hu
  simp only [tzc, List.mem_cons, List.not_mem_nil, or_false] at hu
  rcases hu with rfl | rfl | rfl | rfl <;> rfl
def tzd (z : Tz) : Value := .slice z.1.2.2.2.1 z.1.2.2.2.2.1 z.1.2.2.2.2.2
/-- a row of tags, in blocks that X does not name -/
def TagsAt (X : Nat → Prop) (B : Nat) (w : World) (v : Value) (ts : List Tgs) : Prop :=
  ∃ zs : List Tz, ts = zs.map tagz ∧ Ck X B w v 59 4 zs.length (fl tzc zs) ∧ ∀ z ∈ zs, Ck X B w (tzd z) 5 1 z.2.length (ints .u8 z.2)
/-- a sub-directory's cells -/
abbrev Dz := Value × Value × Value
def dvC (d : Dz) : List Value := [d.1, d.2.1, d.2.2]
def sbC (x : Int × Dz) : List Value := [.int .i64 x.1, x.2.1, x.2.2.1, x.2.2.2]
theorem sbC_len (x : Int × Dz) : (sbC x).length = 4 := rfl
theorem dvC_len (x : Dz) : (dvC x).length = 3 := rfl
def oneZ (d : Dz) : Prop := ∀ u ∈ dvC d, u.oneCell' = true
/-- a directory in memory -/
def DirAt (X : Nat → Prop) (B : Nat) (w : World) : (f : Nat) → DirT f → Dz → Prop
  | 0, _, _ => False
  | f + 1, d, v => oneZ v ∧ TagsAt X B w v.1 d.1 ∧
      (∃ ds : List (Int × Dz), ds.length = d.2.1.length ∧ Ck X B w v.2.1 90 4 ds.length (fl sbC ds) ∧ ∀ i (h : i < ds.length) (h' : i < d.2.1.length), ds[i].1 = d.2.1[i].1 ∧ DirAt X B w f d.2.1[i].2 ds[i].2) ∧
      Ck X B w v.2.2 5 1 d.2.2.length (ints .u8 d.2.2)
theorem TagsAt.keep {X X' : Nat → Prop} {B : Nat} {w w' : World} {v : Value} {ts : List Tgs} (h : TagsAt X B w v ts) (k : Kp X X' B w w') : TagsAt X' B w' v ts := by
  obtain ⟨zs, h1, h2, h3⟩ := h
  exact ⟨zs, h1, h2.keep k, fun z hz => (h3 z hz).keep k⟩
theorem DirAt.keep {X X' : Nat → Prop} {B : Nat} {w w' : World} (k : Kp X X' B w w') : ∀ {f : Nat} {d : DirT f} {v : Dz}, DirAt X B w f d v → DirAt X' B w' f d v
  | 0, _, _, h => h.elim
  | f + 1, d, v, h => by
    obtain ⟨h0, h1, ⟨ds, h2, h3, h4⟩, h5⟩ := h
    exact ⟨h0, h1.keep k, ⟨ds, h2, h3.keep k, fun i hi hi' => ⟨(h4 i hi hi').1, (h4 i hi hi').2.keep k⟩⟩, h5.keep k⟩
theorem TagsAt.mono {X : Nat → Prop} {B B' : Nat} {w : World} {v : Value} {ts : List Tgs} (h : TagsAt X B w v ts) (hB : B' ≤ B) : TagsAt X B' w v ts := by
  obtain ⟨zs, h1, h2, h3⟩ := h
  exact ⟨zs, h1, h2.mono hB, fun z hz => (h3 z hz).mono hB⟩
theorem DirAt.mono {X : Nat → Prop} {B B' : Nat} {w : World} (hB : B' ≤ B) : ∀ {f : Nat} {d : DirT f} {v : Dz}, DirAt X B w f d v → DirAt X B' w f d v
  | 0, _, _, h => h.elim
  | f + 1, d, v, h => by
    obtain ⟨h0, h1, ⟨ds, h2, h3, h4⟩, h5⟩ := h
    exact ⟨h0, h1.mono hB, ⟨ds, h2, h3.mono hB, fun i hi hi' => ⟨(h4 i hi hi').1, (h4 i hi hi').2.mono hB⟩⟩, h5.mono hB⟩

/-- a spot's cells -/
def spC (x : Spt) : List Value := [.int .i64 x.1, .int .i64 x.2.1, .int .i64 x.2.2.1, .int .i64 x.2.2.2.1, .int .i64 x.2.2.2.2]
theorem spC_len (x : Spt) : (spC x).length = 5 := rfl
theorem spC_one (x : Spt) : ∀ u ∈ spC x, u.oneCell' = true := by
  intro u hu
  simp only [spC, List.mem_cons, List.not_mem_nil, or_false] at hu
  rcases hu with rfl | rfl | rfl | rfl | rfl <;> rfl
end Go.Proofs.Ytheelhepelbgcaa
