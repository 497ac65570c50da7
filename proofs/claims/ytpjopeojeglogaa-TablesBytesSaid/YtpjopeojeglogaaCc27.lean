/- Chapter 14: bytes taken one behind the other: the program's reader. -/
import Derived.Test.YtpjopeojeglogaaCc26
namespace Tt
open Go Go.RowKit
set_option linter.unusedVariables false
set_option linter.unusedSimpArgs false
theorem fold_set (off : Nat) : ∀ (l : List Value) (k : Nat) (cs : Array Value), off + k + l.length ≤ cs.size →
    ((l.zipIdx k).foldl (fun cs (p : Value × Nat) => cs.setIfInBounds (off + p.2) p.1) cs).toList = cs.toList.take (off + k) ++ l ++ cs.toList.drop (off + k + l.length)
  | [], k, cs, h => by simp
  | x :: l, k, cs, h => by
    have hl : off + (k + 1) + l.length ≤ (cs.setIfInBounds (off + k) x).size := by simp at h ⊢; omega
    have ih := fold_set off l (k + 1) (cs.setIfInBounds (off + k) x) hl; simp only [List.zipIdx_cons, List.foldl_cons]; rw [ih]; have hk : off + k < cs.size := by simp at h; omega
    rw [Array.toList_setIfInBounds]
    apply List.ext_getElem?
    intro i; simp only [List.getElem?_append, List.length_append, List.length_take, List.length_set, Array.length_toList, List.length_cons, List.getElem?_take, List.getElem?_drop, List.getElem?_set]; have e1 : min (off + (k + 1)) cs.size = off + k + 1 := by omega
    have e2 : min (off + k) cs.size = off + k := by omega
    rw [e1, e2]
    by_cases c1 : i < off + k
    · simp [c1, show i < off + k + 1 by omega, show i < off + (k + 1) by omega, show i < off + k + 1 + l.length by omega, show i < off + k + (l.length + 1) by omega, show off + k ≠ i by omega]
    · by_cases c2 : i = off + k
      · subst c2
        simp [hk, show off + k < off + (k + 1) by omega, show off + k < off + k + 1 + l.length by omega]
      · by_cases c3 : i < off + k + 1 + l.length
        · have : i - (off + k) = (i - (off + k + 1)) + 1 := by omega
          simp [c1, c3, show ¬ i < off + k + 1 by omega, show i < off + k + (l.length + 1) by omega, this]
        · simp [c3, show ¬ i < off + k + (l.length + 1) by omega, show off + (k + 1) + l.length + (i - (off + k + 1 + l.length)) = off + k + (l.length + 1) + (i - (off + k + (l.length + 1))) by omega]
          intro hh
          omega
section
variable {P : Program} {ops : Array Oper} {rest : List Oper} {o : Oper} {a : Act} {w : World} {Q : Exit → Act → World → Prop}
theorem wpList_built (hg : o.guard = none) (t : TypeId) (parts : Array (Nat × Operand)) (ho : o.op = .build t parts) (cells : Array Value) (hf : P.built t (parts.map fun (i, x) => (i, a.eval x)).toList = some cells)
    (h : wpList P ops Q rest (a.put o.dst (.agg cells)) w) : wpList P ops Q (o :: rest) a w :=
  wpList_build hg t parts ho (by rw [hf]; rfl) (by rw [hf]; exact h)
theorem wpList_built2 (hg : o.guard = none) (t : TypeId) (parts : Array (Nat × Operand)) (ho : o.op = .build t parts) (ps : List (Nat × Value)) (cells : Array Value) (hp : (parts.map fun (i, x) => (i, a.eval x)).toList = ps) (hf : P.built t ps = some cells)
    (h : wpList P ops Q rest (a.put o.dst (.agg cells)) w) : wpList P ops Q (o :: rest) a w :=
  wpList_built hg t parts ho cells (by rw [hp]; exact hf) h
end
end Tt
namespace Go.Proofs.Ytpjopeojeglogaa
open Go.RowKit Tt
set_option linter.unusedVariables false
set_option linter.unusedSimpArgs false
theorem sizeU8 (w : World) : (Go.sizeOf 5).run Try.prog w = .ok 1 w := by kernel_rfl
/-- what stands behind the pointer of a reader: the bytes that are left -/
structure Rd (w : World) (rb : Nat) (a : Option Addr) (n c : Nat) (z : List Int) : Prop where
  blk : Blk w rb 189 #[.slice a n c]
  sl : Sl w a n c 1 (ints .u8 z)
  ne : ∀ x, a = some x → x.block ≠ rb
theorem take_no (rb : Nat) (a : Option Addr) (n c : Nat) (z : List Int) (k : Nat) (w : World) (h : Rd w rb a n c z) (hk : n < k) (hkb : k ≤ 1000000) :
    Calls Try.prog 130 #[.pointer (some ⟨rb, 0, none⟩), .int .i64 k] w fun e w' => e = .returned (.tuple #[.slice none 0 0, .bool false]) ∧ w = w' := by
  have c0 : w.cell? ⟨rb, 0, none⟩ = some (.slice a n c) := h.blk.cell rfl; have hd : decide ((n : Int) < k) = true := by simp; omega
  have hd2 : decide (n < k) = true := by simp; omega
  clear h
  go_enter Try.func130, Try.ntmps130
  go_wp2
  go_ret2
  exact ⟨rfl, rfl⟩
theorem take_yes (rb : Nat) (a : Option Addr) (n c : Nat) (z : List Int) (k : Nat) (w : World) (h : Rd w rb a n c z) (hk : k ≤ n) (hkb : k ≤ 1000000) :
    Calls Try.prog 130 #[.pointer (some ⟨rb, 0, none⟩), .int .i64 k] w fun e w' => ∃ a1 c1 a2 c2, e = .returned (.tuple #[.slice a1 k c1, .bool true]) ∧ Sl w' a1 k c1 1 (ints .u8 (z.take k)) ∧ In a1 a ∧ Rd w' rb a2 (n - k) c2 (z.drop k) ∧ In a2 a ∧ But rb w w' := by
  have c0 : w.cell? ⟨rb, 0, none⟩ = some (.slice a n c) := h.blk.cell rfl; have f0 := h.blk.frozen 0; have hle := h.sl.le; have hd : decide ((n : Int) < k) = false := by simp; omega
  obtain ⟨a1, r1, s1, i1⟩ := sub_h (P := Try.prog) Try.underlying30 sizeU8 h.sl k (by omega) (by omega) k rfl; obtain ⟨a2, r2, s2, i2⟩ := sub_l (P := Try.prog) Try.underlying30 sizeU8 h.sl k (by omega) (by omega) (n - k) (c - k) (by omega) (by omega); have hbt : But rb w (w.setCell ⟨rb, 0, none⟩ (.slice a2 (n - k) (c - k))) := (But.refl rb w).set 0 _; have hn1 := i1.ne h.ne; have hn2 := i2.ne h.ne; have t1 := s1.but hbt hn1; have t2 := s2.but hbt hn2; have hb2 : Blk (w.setCell ⟨rb, 0, none⟩ (.slice a2 (n - k) (c - k))) rb 189 #[.slice a2 (n - k) (c - k)] := h.blk.set 0 _; have e1 : (ints .u8 z).take (k * 1) = ints .u8 (z.take k) := by unfold ints; rw [List.map_take, Nat.mul_one]
  have e2 : (ints .u8 z).drop ((k : Int).toNat * 1) = ints .u8 (z.drop k) := by unfold ints; rw [List.map_drop, Nat.mul_one]; rfl
  rw [e1] at t1; rw [e2] at t2; have hfin : Rd (w.setCell ⟨rb, 0, none⟩ (.slice a2 (n - k) (c - k))) rb a2 (n - k) (c - k) (z.drop k) := ⟨hb2, t2, hn2⟩; clear h s1 s2 e1 e2 t2 hb2 hn1 hn2
  generalize n - k = nk at *
  generalize c - k = ck at *
  have hbt' := Lib.hid hbt; have t1' := Lib.hid t1; have hfin' := Lib.hid hfin; have i1' := Lib.hid i1; have i2' := Lib.hid i2; clear hbt t1 hfin i1 i2
  go_enter Try.func130, Try.ntmps130
  go_wp2
  go_ret2
  exact ⟨a1, c, a2, ck, rfl, t1'.out, i1'.out, hfin'.out, i2'.out, hbt'.out⟩
end Go.Proofs.Ytpjopeojeglogaa
