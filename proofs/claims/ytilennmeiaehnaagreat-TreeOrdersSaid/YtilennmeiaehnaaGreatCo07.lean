/- Chapters 20, 21: trees of directories, plain: entries, directories in order, spots, shapes. -/
import Derived.Test.YtilennmeiaehnaaGreatCo06
namespace Go.Proofs.YtilennmeiaehnaaGreat
open Go.RowKit Tt
set_option linter.unusedVariables false

/-- a directory without what lies within: its tags, how many directories, its blob -/
abbrev Flt := List Tgs × Nat × List Int
def entN (t s b : Nat) : Nat := t + s + if 0 < b then 2 else 0
def flatS : (f : Nat) → DirT f → List Flt
  | 0, _ => []
  | f + 1, d => (d.1, d.2.1.length, d.2.2) :: d.2.1.flatMap fun s => flatS f s.2
theorem flatS_succ (f : Nat) (d : DirT (f + 1)) : flatS (f + 1) d = (d.1, d.2.1.length, d.2.2) :: d.2.1.flatMap fun s => flatS f s.2 := rfl
def okT (x : Tgs) : Bool := mayS x.2.1 x.2.2.1 x.2.2.2
def okF (x : Flt) : Bool := decide (1 ≤ entN x.1.length x.2.1 x.2.2.length) && decide (entN x.1.length x.2.1 x.2.2.length ≤ 65535) && x.1.all okT
def evenS (n : Int) : Int := n + n % 2
def endS (l : List Spt) : Int := match l.getLast? with | none => 0 | some x => x.2.2.2.1 + x.2.2.2.2
def addS (l : List Spt) (what no tag long : Int) : List Spt := l ++ [(what, no, tag, evenS (endS l), long)]
def valsS (no : Int) (ts : List Tgs) (l : List Spt) : List Spt := ts.foldl (fun l x => if 0 < outS x.2.1 x.2.2.1 then addS l 3 no x.1 (outS x.2.1 x.2.2.1) else l) l
/-- the spots of a directory and all within it; the number behind -/
def layS : (f : Nat) → DirT f → Int → List Spt → List Spt
  | 0, _, _, l => l
  | f + 1, d, no, l =>
    let l1 := valsS no d.1 (addS l 2 no 0 (6 + 12 * (entN d.1.length d.2.1.length d.2.2.length : Nat)))
    let r := d.2.1.foldl (fun (r : List Spt × Int) s => (layS f s.2 r.2 r.1, r.2 + (flatS f s.2).length)) (l1, no + 1)
    if 0 < d.2.2.length then addS r.1 4 no 0 (d.2.2.length : Nat) else r.1
theorem endS_add (l : List Spt) (a b c e : Int) : endS (addS l a b c e) = evenS (endS l) + e := by simp [endS, addS]
theorem evenS_le {n : Int} (h : 0 ≤ n) : n ≤ evenS n ∧ evenS n ≤ n + 1 := by unfold evenS; omega
theorem addS_len (l : List Spt) (a b c e : Int) : (addS l a b c e).length = l.length + 1 := by simp [addS]
end Go.Proofs.YtilennmeiaehnaaGreat
