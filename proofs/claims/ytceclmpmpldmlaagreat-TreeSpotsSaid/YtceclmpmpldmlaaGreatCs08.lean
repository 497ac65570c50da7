/- Chapter 21: whether shapes may be, in the program. | Chapter 22: the plain walk: what is read of any bytes by any shapes, or which error. | Chapters 20, 21: trees of directories, plain: entries, directories in order, spots, shapes. -/
import Derived.Test.YtceclmpmpldmlaaGreatCs07
namespace Go.Proofs.YtceclmpmpldmlaaGreat
open Go.RowKit Tt
set_option linter.unusedVariables false
set_option linter.unusedSimpArgs false

/-- a shape: its links, At, Long, Next -/
abbrev Shp := List Lk × Int × Int × Int
abbrev shp0 : Shp := ([], 0, 0, 0)
def tagB (x : Int) : Bool := decide (0 ≤ x) && decide (x < 65536)
def lateB (n i : Nat) (x : Int) : Bool := decide ((i : Int) < x) && decide (x < n)
def linkB (n i : Nat) (s : Shp) (k : Nat) : Bool :=
  tagB (s.1.getD k (0, 0)).1 && (decide (k = 0) || decide ((s.1.getD (k - 1) (0, 0)).1 < (s.1.getD k (0, 0)).1)) && lateB n i (s.1.getD k (0, 0)).2 && !(decide (0 < s.2.1) && (decide ((s.1.getD k (0, 0)).1 = s.2.1) || decide ((s.1.getD k (0, 0)).1 = s.2.2.1)))
def nextB (n i : Nat) (s : Shp) : Bool := decide (s.2.2.2 = -1) || lateB n i s.2.2.2
def blobB (s : Shp) : Bool := (decide (s.2.1 = 0) && decide (s.2.2.1 = 0)) || (decide (1 ≤ s.2.1) && decide (s.2.1 < s.2.2.1) && tagB s.2.2.1)
def shapeB (n i : Nat) (s : Shp) : Bool := (List.range s.1.length).all (linkB n i s) && nextB n i s && blobB s
def shapesB (l : List Shp) : Bool := decide (1 ≤ l.length) && decide (l.length ≤ 16) && (List.range l.length).all (fun i => shapeB l.length i (l.getD i shp0))
/-- a shape in memory: its row of links, and what it is -/
abbrev Shz := (Option Addr × Nat × Nat) × Shp
abbrev shz0 : Shz := ((none, 0, 0), shp0)
def shc (z : Shz) : List Value := [.slice z.1.1 z.1.2.1 z.1.2.2, .int .i64 z.2.2.1, .int .i64 z.2.2.2.1, .int .i64 z.2.2.2.2]
theorem shc_len (z : Shz) : (shc z).length = 4 := rfl
structure ShR (W : World) (a : Option Addr) (n c : Nat) (zs : List Shz) : Prop where
  row : Sl W a n c 4 (fl shc zs)
  each : ∀ z ∈ zs, Sl W z.1.1 z.1.2.1 z.1.2.2 2 (fl lkc z.2.1)
theorem ShR.len {W : World} {a : Option Addr} {n c : Nat} {zs : List Shz} (h : ShR W a n c zs) : zs.length = n := h.row.flen shc_len (by decide)
theorem ShR.mono {W W' : World} {a : Option Addr} {n c : Nat} {zs : List Shz} (h : ShR W a n c zs) (hb : Below W.heap.size W W') : ShR W' a n c zs := ⟨h.row.mono hb, fun z hz => (h.each z hz).mono hb⟩
theorem ShR.at {W : World} {a : Option Addr} {n c : Nat} {zs : List Shz} (h : ShR W a n c zs) {i : Nat} (hi : i < n) :
    Sl W (zs.getD i shz0).1.1 (zs.getD i shz0).1.2.1 (zs.getD i shz0).1.2.2 2 (fl lkc (zs.getD i shz0).2.1) :=
  h.each _ (by rw [getD_el (by rw [h.len]; exact hi)]; exact List.getElem_mem _)
def shps (zs : List Shz) : List Shp := zs.map (·.2)
theorem shps_get {zs : List Shz} {i : Nat} (hi : i < zs.length) : (shps zs).getD i shp0 = (zs.getD i shz0).2 := by
  rw [getD_el (by simpa [shps] using hi), getD_el hi]; simp [shps]
theorem tag_any (x : Int) (w : World) : Calls Tryz.prog 105 #[.int .i64 x] w fun e w' => e = .returned (.bool (tagB x)) ∧ Below w.heap.size w w' := by
  have hP := fun W => put_any x 2 2 W; have hk : putOk x 2 2 = tagB x := by unfold putOk tagB topS; simp
  rw [hk] at hP
  generalize tagB x = b at *
  have hP' := Lib.hid hP; clear hP
  go_enter Tryz.func105, Tryz.ntmps105
  go_wp2_with fail
  refine (hP'.out _).mono ?_; rintro e w1 ⟨a1, m1, c1, rfl, ho1, hb1⟩; clear ho1; have hb1' := Lib.hid hb1; clear hb1
  go_wp2_with fail
  go_ret
  exact ⟨rfl, hb1'.out⟩
theorem later_any (a : Option Addr) (n c i : Nat) (x : Int) (w : World) : Calls Tryz.prog 106 #[.slice a n c, .int .i64 i, .int .i64 x] w fun e w' => e = .returned (.bool (lateB n i x)) ∧ w = w' := by
  unfold lateB
  by_cases h : (i : Int) < x
  · simp only [h, decide_true, Bool.true_and]
    go_enter Tryz.func106, Tryz.ntmps106
    go_wp2
    go_ret
    exact ⟨rfl, rfl⟩
  · simp only [h, decide_false, Bool.false_and]
    go_enter Tryz.func106, Tryz.ntmps106
    go_wp2
    go_ret
    exact ⟨rfl, rfl⟩
end Go.Proofs.YtceclmpmpldmlaaGreat

namespace Go.Proofs.YtceclmpmpldmlaaGreat
open Go.RowKit Tt
set_option linter.unusedVariables false
set_option linter.unusedSimpArgs false

abbrev Tgs := Int × Int × Int × List Int
/-- a spot: what, dir, tag, at, long -/
abbrev Spt := Int × Int × Int × Int × Int
structure St where
  spots : List Spt
  no : Int
  soiled : Int
def inSpot (k : Int) (x : Spt) : Bool := decide (x.2.2.2.1 ≤ k) && decide (k < x.2.2.2.1 + x.2.2.2.2)
def takenB (s : St) (k : Int) : Bool := s.spots.any (inSpot k)
def freeB (s : St) (at_ : Int) (long : Nat) : Bool := (List.range long).all fun i => !takenB s (at_ + i)
def fitB (n : Nat) (x : Spt) : Bool := decide (x.2.2.2.1 % 2 = 0) && roomB x.2.2.2.1 x.2.2.2.2 n
def takeS (n : Nat) (x : Spt) (s : St) : Except Int St :=
  if fitB n x = true then if freeB s x.2.2.2.1 x.2.2.2.2.toNat = true then .ok { s with spots := s.spots ++ [x] } else .error 5 else .error 4
def entsS (z : List Int) (o p : Int) (k : Nat) : List Ent := (List.range k).map fun (i : Nat) => entAt z o (p + 2 + 12 * (i : Int))
def linkP (s : Shp) (t : Int) : Bool := s.1.any fun y => y.1 == t
def pairP (s : Shp) (t : Int) : Bool := decide (0 < s.2.1) && (decide (t = s.2.1) || decide (t = s.2.2.1))
def ownP (s : Shp) (t : Int) : Bool := linkP s t || pairP s t
/-- directories, so deep -/
def DirT : Nat → Type
  | 0 => Unit
  | f + 1 => List Tgs × List (Int × DirT f) × List Int
end Go.Proofs.YtceclmpmpldmlaaGreat

namespace Go.Proofs.YtceclmpmpldmlaaGreat
open Go.RowKit Tt
set_option linter.unusedVariables false

/-- a directory without what lies within: its tags, how many directories, its blob -/
abbrev Flt := List Tgs × Nat × List Int
def entN (t s b : Nat) : Nat := t + s + if 0 < b then 2 else 0
def flatS : (f : Nat) → DirT f → List Flt
  | 0, _ => []
  | f + 1, d => (d.1, d.2.1.length, d.2.2) :: d.2.1.flatMap fun s => flatS f s.2
theorem flatS_succ (f : Nat) (d : DirT (f + 1)) : flatS (f + 1) d = (d.1, d.2.1.length, d.2.2) :: d.2.1.flatMap fun s => flatS f s.2 := rfl
def okT (x : Tgs) : Bool := mayS x.2.1 x.2.2.1 x.2.2.2
def okF (x : Flt) : Bool := decide (1 ≤ entN x.1.length x.2.1 x.2.2.length) && decide (entN x.1.length x.2.1 x.2.2.length ≤ 65535) && x.1.all okT
def evenS (n : Int) : Int := n + n % 2
def endS (l : List Spt) : Int := match l.getLast? with | none => 0 | some x => x.2.2.2.1 + x.2.2.2.2
def addS (l : List Spt) (what no tag long : Int) : List Spt := l ++ [(what, no, tag, evenS (endS l), long)]
def valsS (no : Int) (ts : List Tgs) (l : List Spt) : List Spt := ts.foldl (fun l x => if 0 < outS x.2.1 x.2.2.1 then addS l 3 no x.1 (outS x.2.1 x.2.2.1) else l) l
/-- the spots of a directory and all within it; the number behind -/
def layS : (f : Nat) → DirT f → Int → List Spt → List Spt
  | 0, _, _, l => l
  | f + 1, d, no, l =>
    let l1 := valsS no d.1 (addS l 2 no 0 (6 + 12 * (entN d.1.length d.2.1.length d.2.2.length : Nat)))
    let r := d.2.1.foldl (fun (r : List Spt × Int) s => (layS f s.2 r.2 r.1, r.2 + (flatS f s.2).length)) (l1, no + 1)
    if 0 < d.2.2.length then addS r.1 4 no 0 (d.2.2.length : Nat) else r.1
theorem endS_add (l : List Spt) (a b c e : Int) : endS (addS l a b c e) = evenS (endS l) + e := by simp [endS, addS]
theorem evenS_le {n : Int} (h : 0 ≤ n) : n ≤ evenS n ∧ evenS n ≤ n + 1 := by unfold evenS; omega
theorem addS_len (l : List Spt) (a b c e : Int) : (addS l a b c e).length = l.length + 1 := by simp [addS]
end Go.Proofs.YtceclmpmpldmlaaGreat
