/- Chapter 21: whether shapes may be, in the program. -/
import Derived.Test.YtheelhepelbgcaaEn3
namespace Go.Proofs.Ytheelhepelbgcaa
open Go.RowKit Tt
set_option linter.unusedVariables false
set_option linter.unusedSimpArgs false

/-- a shape: its links, At, Long, Next -/
abbrev Shp := List Lk × Int × Int × Int
abbrev shp0 : Shp := ([], 0, 0, 0)
def tagB (x : Int) : Bool := decide (0 ≤ x) && decide (x < 65536)
def lateB (n i : Nat) (x : Int) : Bool := decide ((i : Int) < x) && decide (x < n)
def linkB (n i : Nat) (s : Shp) (k : Nat) : Bool :=
  tagB (s.1.getD k (0, 0)).1 && (decide (k = 0) || decide ((s.1.getD (k - 1) (0, 0)).1 < (s.1.getD k (0, 0)).1)) && lateB n i (s.1.getD k (0, 0)).2 && !(decide (0 < s.2.1) && (decide ((s.1.getD k (0, 0)).1 = s.2.1) || decide ((s.1.getD k (0, 0)).1 = s.2.2.1)))
def nextB (n i : Nat) (s : Shp) : Bool := decide (s.2.2.2 = -1) || lateB n i s.2.2.2
def blobB (s : Shp) : Bool := (decide (s.2.1 = 0) && decide (s.2.2.1 = 0)) || (decide (1 ≤ s.2.1) && decide (s.2.1 < s.2.2.1) && tagB s.2.2.1)
def shapeB (n i : Nat) (s : Shp) : Bool := (List.range s.1.length).all (linkB n i s) && nextB n i s && blobB s
def shapesB (l : List Shp) : Bool := decide (1 ≤ l.length) && decide (l.length ≤ 16) && (List.range l.length).all (fun i => shapeB l.length i (l.getD i shp0))
/-- a shape in memory: its row of links, and what it is -/
abbrev Shz := (Option Addr × Nat × Nat) × Shp
abbrev shz0 : Shz := ((none, 0, 0), shp0)
def shc (z : Shz) : List Value := [.slice z.1.1 z.1.2.1 z.1.2.2, .int .i64 z.2.2.1, .int .i64 z.2.2.2.1, .int .i64 z.2.2.2.2]
theorem shc_len (z : Shz) : (shc z).length = 4 := rfl
structure ShR (W : World) (a : Option Addr) (n c : Nat) (zs : List Shz) : Prop where
  row : Sl W a n c 4 (fl shc zs)
  each : ∀ z ∈ zs, Sl W z.1.1 z.1.2.1 z.1.2.2 2 (fl lkc z.2.1)
theorem ShR.len {W : World} {a : Option Addr} {n c : Nat} {zs : List Shz} (h : ShR W a n c zs) : zs.length = n := h.row.flen shc_len (by decide)
theorem ShR.mono {W W' : World} {a : Option Addr} {n c : Nat} {zs : List Shz} (h : ShR W a n c zs) (hb : Below W.heap.size W W') : ShR W' a n c zs := ⟨h.row.mono hb, fun z hz => (h.each z hz).mono hb⟩
theorem ShR.at {W : World} {a : Option Addr} {n c : Nat} {zs : List Shz} (h : ShR W a n c zs) {i : Nat} (hi : i < n) :
    Sl W (zs.getD i shz0).1.1 (zs.getD i shz0).1.2.1 (zs.getD i shz0).1.2.2 2 (fl lkc (zs.getD i shz0).2.1) :=
  h.each _ (by rw [getD_el (by rw [h.len]; exact hi)]; exact List.getElem_mem _)
def shps (zs : List Shz) : List Shp := zs.map (·.2)
theorem shps_get {zs : List Shz} {i : Nat} (hi : i < zs.length) : (shps zs).getD i shp0 = (zs.getD i shz0).2 := by
  rw [getD_el (by simpa [shps] using hi), getD_el hi]; simp [shps]
theorem tag_any (x : Int) (w : World) : Calls Try.prog 44 #[.int .i64 x] w fun e w' => e = .returned (.bool (tagB x)) ∧ Below w.heap.size w w' := by
  have hP := fun W => put_any x 2 2 W
  have hk : putOk x 2 2 = tagB x := by unfold putOk tagB topS; simp
  rw [hk] at hP
  generalize tagB x = b at *
  have hP' := Lib.hid hP
  clear hP
  go_enter Try.func44, Try.ntmps44
  go_wp2_with fail
  refine (hP'.out _).mono ?_
  rintro e w1 ⟨a1, m1, c1, rfl, ho1, hb1⟩
  clear ho1
  have hb1' := Lib.hid hb1
  clear hb1
  go_wp2_with fail
  go_ret
  exact ⟨rfl, hb1'.out⟩
theorem later_any (a : Option Addr) (n c i : Nat) (x : Int) (w : World) : Calls Try.prog 45 #[.slice a n c, .int .i64 i, .int .i64 x] w fun e w' => e = .returned (.bool (lateB n i x)) ∧ w = w' := by
  unfold lateB
  by_cases h : (i : Int) < x
  · simp only [h, decide_true, Bool.true_and]
    go_enter Try.func45, Try.ntmps45
    go_wp2
    go_ret
    exact ⟨rfl, rfl⟩
  · simp only [h, decide_false, Bool.false_and]
    go_enter Try.func45, Try.ntmps45
    go_wp2
    go_ret
    exact ⟨rfl, rfl⟩
end Go.Proofs.Ytheelhepelbgcaa
