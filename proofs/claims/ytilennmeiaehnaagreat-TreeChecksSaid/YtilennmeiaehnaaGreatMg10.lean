/- Chapter 22: the plain walk: what is read of any bytes by any shapes, or which error. | Chapters 20, 21: trees of directories, plain: entries, directories in order, spots, shapes. -/
import Derived.Test.YtilennmeiaehnaaGreatMg09
namespace Go.Proofs.YtilennmeiaehnaaGreat
open Go.RowKit Tt
set_option linter.unusedVariables false
set_option linter.unusedSimpArgs false

abbrev Tgs := Int × Int × Int × List Int
/-- a spot: what, dir, tag, at, long -/
abbrev Spt := Int × Int × Int × Int × Int
structure St where
  spots : List Spt
  no : Int
  soiled : Int
def inSpot (k : Int) (x : Spt) : Bool := decide (x.2.2.2.1 ≤ k) && decide (k < x.2.2.2.1 + x.2.2.2.2)
def takenB (s : St) (k : Int) : Bool := s.spots.any (inSpot k)
def freeB (s : St) (at_ : Int) (long : Nat) : Bool := (List.range long).all fun i => !takenB s (at_ + i)
def fitB (n : Nat) (x : Spt) : Bool := decide (x.2.2.2.1 % 2 = 0) && roomB x.2.2.2.1 x.2.2.2.2 n
def takeS (n : Nat) (x : Spt) (s : St) : Except Int St :=
  if fitB n x = true then if freeB s x.2.2.2.1 x.2.2.2.2.toNat = true then .ok { s with spots := s.spots ++ [x] } else .error 5 else .error 4
def entsS (z : List Int) (o p : Int) (k : Nat) : List Ent := (List.range k).map fun (i : Nat) => entAt z o (p + 2 + 12 * (i : Int))
def risesE : List Ent → Bool
  | x :: y :: r => decide (x.1 < y.1) && risesE (y :: r)
  | _ => true
def entriesS (z : List Int) (o p no : Int) (s : St) : Except Int (List Ent × St) :=
  if (decide (p % 2 = 0) && roomB p 2 z.length) = true then
    if 0 < getV z p 2 o then
      match takeS z.length (2, no, 0, p, 6 + 12 * getV z p 2 o) s with
      | .error e => .error e
      | .ok s' => if risesE (entsS z o p (getV z p 2 o).toNat) = true then .ok (entsS z o p (getV z p 2 o).toNat, s') else .error 2
    else .error 2
  else .error 4
def valueS (z : List Int) (o : Int) (x : Ent) (no : Int) (s : St) : Except Int (Tgs × St) :=
  if 0 < (kindS x.2.1).1 ∧ 1 ≤ x.2.2.1 ∧ x.2.2.1 ≤ 65536 then
    if 0 < outS x.2.1 x.2.2.1 then
      match takeS z.length (3, no, x.1, x.2.2.2, outS x.2.1 x.2.2.1) s with
      | .error e => .error e
      | .ok s' => match ofS x.2.1 x.2.2.1 (z.drop x.2.2.2.toNat) o with
        | none => .error 6
        | some d => .ok ((x.1, x.2.1, x.2.2.1, d), s')
    else match inS x o with
      | none => .error 6
      | some d => .ok ((x.1, x.2.1, x.2.2.1, d.1), { s with soiled := if d.2 = true then s.soiled else IntKind.i64.wrap (s.soiled + 1) })
  else .error 6
def linkP (s : Shp) (t : Int) : Bool := s.1.any fun y => y.1 == t
def pairP (s : Shp) (t : Int) : Bool := decide (0 < s.2.1) && (decide (t = s.2.1) || decide (t = s.2.2.1))
def ownP (s : Shp) (t : Int) : Bool := linkP s t || pairP s t
/-- one more entry: a value, or one of the shape's own -/
def stepT (z : List Int) (o : Int) (sh : Shp) (no : Int) (acc : List Tgs × St) (x : Ent) : Except Int (List Tgs × St) :=
  if ownP sh x.1 = true then (if x.2.1 = 4 ∧ x.2.2.1 = 1 then .ok acc else .error 6)
  else match valueS z o x no acc.2 with
    | .error e => .error e
    | .ok (v, s') => .ok (acc.1 ++ [v], s')
/-- directories, so deep -/
def DirT : Nat → Type
  | 0 => Unit
  | f + 1 => List Tgs × List (Int × DirT f) × List Int
/-- one more entry: a directory within, if it is a link -/
def stepD {f : Nat} (rec : Int → Int → St → Except Int ((DirT f × Int) × St)) (sh : Shp) (acc : List (Int × DirT f) × St) (x : Ent) : Except Int (List (Int × DirT f) × St) :=
  if linkP sh x.1 = true then
    match rec x.2.2.2 (sh.1.getD (fst (fun y => y.1 == x.1) sh.1).toNat (0, 0)).2 acc.2 with
    | .error e => .error e
    | .ok ((d, next), s') => if next = 0 then .ok (acc.1 ++ [(x.1, d)], s') else .error 2
  else .ok acc
def loopS {α σ : Type} (step : σ → α → Except Int σ) : List α → σ → Except Int σ
  | [], s => .ok s
  | x :: r, s => match step s x with
    | .error e => .error e
    | .ok s' => loopS step r s'
def blobS (z : List Int) (sh : Shp) (l : List Ent) (no : Int) (s : St) : Except Int (List Int × St) :=
  match l.filter (fun x => !linkP sh x.1 && pairP sh x.1) with
  | [x, y] => if 0 < y.2.2.2 then
      match takeS z.length (4, no, 0, x.2.2.2, y.2.2.2) s with
      | .error e => .error e
      | .ok s' => .ok ((z.drop x.2.2.2.toNat).take y.2.2.2.toNat, s')
    else .error 6
  | _ => .ok ([], s)
def dirS (z : List Int) (o : Int) (L : List Shp) : (f : Nat) → Int → Int → St → Except Int ((DirT f × Int) × St)
  | 0, _, _, _ => .error 2
  | f + 1, p, sh, s =>
    match entriesS z o p s.no { s with no := IntKind.i64.wrap (s.no + 1) } with
    | .error e => .error e
    | .ok (l, s1) =>
      match loopS (stepT z o (L.getD sh.toNat shp0) s.no) l ([], s1) with
      | .error e => .error e
      | .ok (tags, s2) =>
        if (l.filter (fun x => !linkP (L.getD sh.toNat shp0) x.1 && pairP (L.getD sh.toNat shp0) x.1)).length = 1 then .error 6 else
        match loopS (stepD (dirS z o L f) (L.getD sh.toNat shp0)) l ([], s2) with
        | .error e => .error e
        | .ok (subs, s3) =>
          match blobS z (L.getD sh.toNat shp0) l s.no s3 with
          | .error e => .error e
          | .ok (blob, s4) => .ok (((tags, subs, blob), getV z (p + 2 + 12 * l.length) 4 o), s4)
def orderS (z : List Int) : Int := if z.getD 0 0 = 73 ∧ z.getD 1 0 = 73 then 1 else if z.getD 0 0 = 77 ∧ z.getD 1 0 = 77 then 2 else 0
def headS (z : List Int) : Except Int St :=
  if 8 ≤ z.length then
    if 0 < orderS z ∧ getV z 2 2 (orderS z) = 42 then takeS z.length (1, -1, 0, 0, 8) ⟨[], 0, 0⟩ else .error 2
  else .error 3
def chainS (z : List Int) (o : Int) (L : List Shp) : Nat → List (DirT 16) → Int → Int → St → Except Int (List (DirT 16) × St)
  | 0, _, _, _, _ => .error 2
  | f + 1, acc, p, sh, s =>
    if 0 < p ∨ acc.length = 0 then
      if 0 ≤ sh then
        match dirS z o L 16 p sh s with
        | .error e => .error e
        | .ok ((d, next), s') => chainS z o L f (acc ++ [d]) next (L.getD sh.toNat shp0).2.2.2 s'
      else .error 2
    else .ok (acc, s)
def readS (z : List Int) (L : List Shp) : Except Int (List (DirT 16) × St) :=
  if shapesB L = true then
    match headS z with
    | .error e => .error e
    | .ok s => chainS z (orderS z) L 18 [] (getV z 4 4 (orderS z)) 0 s
  else .error 1
def errS (r : Except Int (List (DirT 16) × St)) : Int := match r with | .error e => e | .ok _ => 0
def cleanS (z : List Int) (L : List Shp) : Bool := match readS z L with
  | .error _ => false
  | .ok (_, s) => decide (s.soiled ≤ 0) && (List.range z.length).all fun k => decide (z.getD k 0 = 0) || takenB s k
/-- the chapter's examples -/
def ofL (l : List Int) : List Int := [73, 73, 42, 0, 8, 0, 0, 0] ++ l
def loneS : List Shp := [([], 0, 0, -1)]
def sameT (r : Except Int (List (DirT 16) × St)) (t : List Tgs) : Bool := match r with
  | .ok ([d], _) => let d' : List Tgs × List (Int × DirT 15) × List Int := d
    decide (d'.1 = t) && decide (d'.2.1.length = 0) && decide (d'.2.2 = [])
  | _ => false
theorem ex1 : sameT (readS (ofL [1, 0, 0, 1, 3, 0, 1, 0, 0, 0, 2, 1, 0, 0, 0, 0, 0, 0]) loneS) [(256, 3, 1, [1, 2])] = true := by decide +kernel
theorem ex2 : errS (readS (ofL [0, 0, 0, 0, 0, 0]) loneS) = 2 := by decide +kernel
theorem ex3 : errS (readS (ofL [1, 0, 0, 1, 5, 0, 1, 0, 0, 0, 8, 0, 0, 0, 0, 0, 0, 0]) loneS) = 5 := by decide +kernel
theorem ex4 : errS (readS (ofL [1, 0, 0, 1, 5, 0, 1, 0, 0, 0, 9, 0, 0, 0, 0, 0, 0, 0]) loneS) = 4 := by decide +kernel
theorem ex5 : errS (readS (ofL [1, 0, 0, 1, 5, 0, 1, 0, 0, 0, 232, 3, 0, 0, 0, 0, 0, 0]) loneS) = 4 := by decide +kernel
theorem ex6 : errS (readS (ofL [1, 0, 0, 1, 2, 0, 2, 0, 0, 0, 97, 98, 0, 0, 0, 0, 0, 0]) loneS) = 6 := by decide +kernel
theorem ex7 : errS (readS [] loneS) = 3 := by decide +kernel
end Go.Proofs.YtilennmeiaehnaaGreat

namespace Go.Proofs.YtilennmeiaehnaaGreat
open Go.RowKit Tt
set_option linter.unusedVariables false

/-- a directory without what lies within: its tags, how many directories, its blob -/
abbrev Flt := List Tgs × Nat × List Int
def entN (t s b : Nat) : Nat := t + s + if 0 < b then 2 else 0
def flatS : (f : Nat) → DirT f → List Flt
  | 0, _ => []
  | f + 1, d => (d.1, d.2.1.length, d.2.2) :: d.2.1.flatMap fun s => flatS f s.2
theorem flatS_succ (f : Nat) (d : DirT (f + 1)) : flatS (f + 1) d = (d.1, d.2.1.length, d.2.2) :: d.2.1.flatMap fun s => flatS f s.2 := rfl
def okT (x : Tgs) : Bool := mayS x.2.1 x.2.2.1 x.2.2.2
def okF (x : Flt) : Bool := decide (1 ≤ entN x.1.length x.2.1 x.2.2.length) && decide (entN x.1.length x.2.1 x.2.2.length ≤ 65535) && x.1.all okT
def evenS (n : Int) : Int := n + n % 2
def endS (l : List Spt) : Int := match l.getLast? with | none => 0 | some x => x.2.2.2.1 + x.2.2.2.2
def addS (l : List Spt) (what no tag long : Int) : List Spt := l ++ [(what, no, tag, evenS (endS l), long)]
def valsS (no : Int) (ts : List Tgs) (l : List Spt) : List Spt := ts.foldl (fun l x => if 0 < outS x.2.1 x.2.2.1 then addS l 3 no x.1 (outS x.2.1 x.2.2.1) else l) l
/-- the spots of a directory and all within it; the number behind -/
def layS : (f : Nat) → DirT f → Int → List Spt → List Spt
  | 0, _, _, l => l
  | f + 1, d, no, l =>
    let l1 := valsS no d.1 (addS l 2 no 0 (6 + 12 * (entN d.1.length d.2.1.length d.2.2.length : Nat)))
    let r := d.2.1.foldl (fun (r : List Spt × Int) s => (layS f s.2 r.2 r.1, r.2 + (flatS f s.2).length)) (l1, no + 1)
    if 0 < d.2.2.length then addS r.1 4 no 0 (d.2.2.length : Nat) else r.1
theorem endS_add (l : List Spt) (a b c e : Int) : endS (addS l a b c e) = evenS (endS l) + e := by simp [endS, addS]
theorem evenS_le {n : Int} (h : 0 ≤ n) : n ≤ evenS n ∧ evenS n ≤ n + 1 := by unfold evenS; omega
theorem addS_len (l : List Spt) (a b c e : Int) : (addS l a b c e).length = l.length + 1 := by simp [addS]
end Go.Proofs.YtilennmeiaehnaaGreat
