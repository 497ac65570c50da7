/- The plain side of chapter 26: no program in sight. -/
import Derived.Test.YtgmcnjnkiblbjaaDoorL
namespace Tt
open Go
def hd : List Int := [73, 67, 67, 95, 80, 82, 79, 70, 73, 76, 69, 0]
theorem byt_hd : Byt hd := by intro x hx; simp [hd] at hx; omega
def isB (b : List Int) : Bool := b.take 12 == hd
theorem isB_short {b : List Int} (h : b.length < 12) : isB b = false := by
  unfold isB
  rw [beq_eq_false_iff_ne]
  intro h2
  have := congrArg List.length h2
  rw [List.length_take] at this
  simp [hd] at this
  omega
theorem isB_at {b : List Int} {k : Nat} (h : isB b = true) (hk : k < 12) : k < b.length ∧ b.getD k 0 = hd.getD k 0 := by
  unfold isB at h
  have h2 := beq_iff_eq.1 h
  have hl : 12 ≤ b.length := by
    rcases Nat.lt_or_ge b.length 12 with h3 | h3
    · have := isB_short h3; unfold isB at this; rw [h] at this; cases this
    · exact h3
  refine ⟨by omega, ?_⟩
  rw [← h2, List.getD_eq_getElem?_getD, List.getD_eq_getElem?_getD, List.getElem?_take, if_pos hk]
theorem isB_no {b : List Int} {k : Nat} (hk : k < 12) (h : b.length ≤ k ∨ b.getD k 0 ≠ hd.getD k 0) : isB b = false := by
  cases hb : isB b
  · rfl
  · have := isB_at hb hk
    rcases h with h | h
    · omega
    · exact absurd this.2 h
theorem isB_yes {b : List Int} (h : b.take 12 = hd.take 12) : isB b = true := by
  unfold isB
  rw [beq_iff_eq, h]
  rfl
theorem step_take {b : List Int} {k : Nat} (hk : k < 12) (hb : k < b.length) (h : b.take k = hd.take k) (he : b.getD k 0 = hd.getD k 0) : b.take (k + 1) = hd.take (k + 1) := by
  rw [List.take_add_one, List.take_add_one, h]
  congr 1
  simp only [List.getD_eq_getElem?_getD] at he
  have : k < hd.length := by simp [hd]; omega
  rw [List.getElem?_eq_getElem hb, List.getElem?_eq_getElem this] at he ⊢
  simpa using he
theorem hd_ints : ints .u8 hd = [.int .u8 73, .int .u8 67, .int .u8 67, .int .u8 95, .int .u8 80, .int .u8 82, .int .u8 79, .int .u8 70, .int .u8 73, .int .u8 76, .int .u8 69, .int .u8 0] := rfl

/-- whether a chunk is that of a place, of so many -/
def rightB (b : List Int) (i all : Int) : Bool :=
  isB b && (b.getD 12 0 == i + 1) && (b.getD 13 0 == all) && (decide (b.length = 65533) || (decide (i = all - 1) && decide (15 ≤ b.length) && decide (b.length < 65533)))
def joinE (all : Nat) : Nat → List (List Int) → Int
  | _, [] => 0
  | i, b :: r => if b.length < 14 then 3 else if rightB b i all = false then 2 else joinE all (i + 1) r
def parts (l : List (List Int)) : List Int := l.flatMap (·.drop 14)
theorem drop_cons {l : List (List Int)} {k : Nat} (h : k < l.length) : l.drop k = l.getD k [] :: l.drop (k + 1) := by
  rw [List.drop_eq_getElem_cons h, List.getD_eq_getElem?_getD, List.getElem?_eq_getElem h]; rfl
theorem take_snoc {l : List (List Int)} {k : Nat} (h : k < l.length) : l.take (k + 1) = l.take k ++ [l.getD k []] := by
  rw [List.take_add_one, List.getD_eq_getElem?_getD, List.getElem?_eq_getElem h]; rfl
theorem joinE_cons (all k : Nat) (b : List Int) (r : List (List Int)) : joinE all k (b :: r) = if b.length < 14 then 3 else if rightB b k all = false then 2 else joinE all (k + 1) r := rfl
theorem rightB_len {b : List Int} {i all : Int} (h : rightB b i all = true) : b.length ≤ 65533 := by
  unfold rightB at h
  simp at h
  omega
theorem parts_snoc (l : List (List Int)) (b : List Int) : l.flatMap (·.drop 14) ++ b.drop 14 = (l ++ [b]).flatMap (·.drop 14) := by simp

def joinS (l : List (List Int)) : List Int × Int :=
  if 255 < l.length then ([], 7) else if joinE l.length 0 l = 0 then (parts l, 0) else ([], joinE l.length 0 l)

def cntN (n : Nat) : Nat := if n < 1 then 0 else (n - 1) / 65519 + 1
theorem cntN_lt {n i : Nat} : i < cntN n ↔ 65519 * i < n := by unfold cntN; split <;> omega
/-- chunk number i, of so many -/
def chunk (p : List Int) (all i : Nat) : List Int := hd ++ [(i : Int) + 1, (all : Int)] ++ (p.drop (65519 * i)).take 65519
def cutS (p : List Int) : List (List Int) × Int :=
  if 255 < cntN p.length then ([], 7) else ((List.range (cntN p.length)).map (chunk p (cntN p.length)), 0)
theorem byt_chunk {p : List Int} {all i : Nat} (hp : Byt p) (ha : all ≤ 255) (hi : i < all) : Byt (chunk p all i) := by
  unfold chunk
  refine (byt_hd.append ?_).append ((hp.drop _).take _)
  intro x hx
  simp at hx
  omega
theorem byt_cutS {p : List Int} (hp : Byt p) : ∀ l ∈ (cutS p).1, Byt l := by
  intro l hl
  unfold cutS at hl
  split at hl
  · cases hl
  · simp only [List.mem_map, List.mem_range] at hl
    obtain ⟨i, hi, rfl⟩ := hl
    exact byt_chunk hp (by omega) hi
theorem cutS_ok {p : List Int} (h : cntN p.length ≤ 255) : cutS p = ((List.range (cntN p.length)).map (chunk p (cntN p.length)), 0) := by
  unfold cutS; rw [if_neg (by omega)]
theorem cutS_long {p : List Int} (h : 255 < cntN p.length) : cutS p = ([], 7) := by
  unfold cutS; rw [if_pos h]
theorem chunk_take {p : List Int} {i m : Nat} (h : 65519 * i < p.length) (hm : m = min p.length (65519 * (i + 1)) - 65519 * i) : (p.drop (65519 * i)).take m = (p.drop (65519 * i)).take 65519 := by
  rcases Nat.lt_or_ge p.length (65519 * (i + 1)) with h1 | h1
  · rw [List.take_of_length_le (by rw [List.length_drop]; omega), List.take_of_length_le (by rw [List.length_drop]; omega)]
  · rw [show m = 65519 by omega]
theorem chunk_len {p : List Int} {all i m : Nat} (h : 65519 * i < p.length) (hm : m = min p.length (65519 * (i + 1)) - 65519 * i) : (chunk p all i).length = 14 + m := by
  unfold chunk
  simp [hd]
  omega

theorem cutS_nil : cutS [] = ([], 0) := by decide
theorem cutS_789 : cutS [7, 8, 9] = ([hd ++ [1, 1, 7, 8, 9]], 0) := by decide
theorem cutS_two {p : List Int} (h : p.length = 65520) : cutS p = ([chunk p 2 0, chunk p 2 1], 0) := by
  have hc : cntN p.length = 2 := by unfold cntN; rw [if_neg (by omega)]; omega
  rw [cutS_ok (by omega), hc]
  rfl
theorem chunk_two0 {p : List Int} (h : p.length = 65520) : (chunk p 2 0).length = 65533 := chunk_len (m := 65519) (by omega) (by omega)
theorem chunk_two1 {p : List Int} (h : p.length = 65520) : (chunk p 2 1).length = 15 := chunk_len (m := 1) (by omega) (by omega)
end Tt
