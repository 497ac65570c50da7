/- Chapter 13: what is deferred, where nothing was wrong. -/
import Derived.Test.YthcecnolmhillaaMr4
import Derived.Defers
import Derived.Recover
import Derived.Laws.Pointers
namespace Go.Proofs.Ythcecnolmhillaa
open Go.RowKit Tt
set_option linter.unusedVariables false

theorem of1_idle (a b c d : Addr) (w : World) :
    CallsD Try.prog 26 #[.pointer (some a), .pointer (some b), .pointer (some c), .pointer (some d)] .returning w fun e u' w' => e = .returned (.tuple #[]) ∧ u' = .returning ∧ Below w.heap.size w w' := by
  refine callsD_of_wpS Try.func26 rfl fun c₀ cs hu => ?_
  have hta : ∀ W, (Instr.typeAssert .nilIface 20 57 true).run Try.prog W = .ok (.tuple #[.agg #[.int .i64 0, .int .i64 0], .bool false]) W := fun W => by kernel_rfl
  simp only [Try.ntmps26, List.size_toArray, List.length_cons, List.length_nil, Nat.reduceAdd, Nat.reduceSub, Array.replicate_succ, Array.replicate_zero, List.push_toArray, List.append_toArray, List.nil_append, List.cons_append]
  apply wpS_seq
  apply wpS_region
  simp [wpOpsS, go_sem, recoverD, hu, Exit.thenS]
  refine wpS_of_wp ?_
  go_wp2
  cases c₀
  simp_all [bodyPostS, results, Try.results26]
  exact (Below.refl _ _).alloc (Nat.le_refl _) _

def core15 : List Int := [255, 216, 255, 218, 0, 8, 1, 1, 0, 0, 63, 0, 7, 255, 217]
def cAt : Nat → Nat
  | 0 => 0
  | 1 => 2
  | 2 => 13
  | _ => 15
def cMk : Nat → Int
  | 0 => 216
  | 1 => 218
  | _ => 217
theorem core_get {z : List Int} (h : z.take 15 = core15) {i : Nat} (hi : i < 15) : z.getD i 0 = core15.getD i 0 := by
  rw [← h, List.getD_eq_getElem?_getD, List.getD_eq_getElem?_getD, List.getElem?_take, if_pos hi]
theorem getD_drop {z : List Int} (k i : Nat) : (z.drop k).getD i 0 = z.getD (k + i) 0 := by
  rw [List.getD_eq_getElem?_getD, List.getD_eq_getElem?_getD, List.getElem?_drop]
theorem core_marker (g n c : Nat) (a : Option Addr) (z : List Int) (w : World) (hs : Sl w a n c 1 (ints .u8 z)) (hz : Byt z) (hc : z.take 15 = core15) (hn : 15 ≤ n) (j : Nat) (hj : j < 3) (W : World) (hb : Below w.heap.size w W) (hx : Lx W g a n c (cAt j)) :
    Calls Try.prog 28 #[.pointer (some ⟨g, 0, none⟩)] W fun e w' => e = .returned (.int .i64 (cMk j)) ∧ But g W w' ∧ Lx w' g a n c (cAt j + 2) := by
  have hv : cAt j + 2 ≤ 15 ∧ core15.getD (cAt j) 0 = 255 ∧ core15.getD (cAt j + 1) 0 = cMk j ∧ (cAt j = 0 ↔ cMk j = 216) ∧ (cMk j = 217 ∨ cAt j = 0 ∨ headB (cMk j) = true) := by
    have : j = 0 ∨ j = 1 ∨ j = 2 := by omega
    rcases this with rfl | rfl | rfl <;> decide
  obtain ⟨h1, h2, h3, h4, h5⟩ := hv
  refine (marker_ok g n c a z (cAt j) (cMk j) W (hs.mono hb) hz hx.c0 hx.c1 hx.fz (by omega) (by rw [core_get hc (by omega)]; exact h2) (by rw [core_get hc (by omega)]; exact h3) h4 h5).mono ?_
  rintro e w' ⟨rfl, i, rfl⟩
  exact ⟨rfl, ((But.refl g W).later (((Qt.refl W).step i).below _)).set 1 _, Lx.move (Lx.late hx (((Qt.refl W).step i).below _)) _⟩
theorem core_segment (g n c : Nat) (a : Option Addr) (z : List Int) (w : World) (hs : Sl w a n c 1 (ints .u8 z)) (hz : Byt z) (hc : z.take 15 = core15) (hn : 15 ≤ n) (hnn : n ≤ 140737488355328) (hg : w.heap.size ≤ g) (j : Nat) (hj : j < 3) (W : World) (hb : Below w.heap.size w W) (hx : Lx W g a n c (cAt j + 2)) :
    Calls Try.prog 27 #[.pointer (some ⟨g, 0, none⟩), .int .i64 (cMk j)] W fun e w' => ∃ (a1 : Option Addr) (n1 c1 : Nat) (a2 : Option Addr) (n2 c2 : Nat), e = .returned (.agg #[.int .i64 (cMk j), .slice a1 n1 c1, .slice a2 n2 c2]) ∧ But g W w' ∧ Lx w' g a n c (cAt (j + 1)) := by
  have : j = 0 ∨ j = 1 ∨ j = 2 := by omega
  rcases this with rfl | rfl | rfl
  · refine (seg_alone g 216 rfl W).mono ?_
    rintro e w' ⟨rfl, h⟩
    exact ⟨_, _, _, _, _, _, rfl, But.of_below h, Lx.late hx h⟩
  · have hg0 : getL z 4 2 2 = [0, 8] := by
      have h1 : (z.drop 4).take 2 = ((z.take 15).drop 4).take 2 := by rw [List.drop_take, List.take_take]; rfl
      unfold getL
      rw [if_neg (by decide), h1, hc]
      rfl
    have ha : ∀ x, a = some x → x.block ≠ g := fun x hx => by
      obtain ⟨b, o, e, hlt, _⟩ := hs.lies 0 (by omega)
      rw [hx] at e
      cases e
      show b ≠ g
      omega
    refine (seg_scan g n c 4 8 1 a z W (hs.mono hb) hz hx ha hnn (by omega) (by rw [hg0]; rfl) (by omega) (by omega) (by omega) ?_ ?_).mono ?_
    · unfold stopB
      rw [getD_drop, getD_drop, core_get hc (by omega), core_get hc (by omega)]
      decide
    · intro i hi
      obtain rfl : i = 0 := by omega
      unfold stopB
      rw [getD_drop, getD_drop, core_get hc (by omega), core_get hc (by omega)]
      decide
    · rintro e w' ⟨a1, c1, a2, c2, rfl, h1, h2⟩
      exact ⟨_, _, _, _, _, _, rfl, h1, h2⟩
  · refine (seg_alone g 217 rfl W).mono ?_
    rintro e w' ⟨rfl, h⟩
    exact ⟨_, _, _, _, _, _, rfl, But.of_below h, Lx.late hx h⟩
end Go.Proofs.Ythcecnolmhillaa
