/- Chapter 3 (plain): bits as a row; the bytes of bits; the bits of bytes. | Chapter 11 (plain): blocks told by symbols. | Chapter 4 (plain): the codes of a table, in order; none begins another one; which symbol is taken from bits. | Chapter 4 (plain): what the program takes is what the document takes. -/
import Derived.Test.YtpjopeojeglogaaCs05
import Derived.Test.YtpjopeojeglogaaCs01
import Derived.Test.YtpjopeojeglogaaCs00
namespace Tt
open Go Go.RowKit
set_option linter.unusedVariables false
set_option linter.unusedSimpArgs false

/-- the number of bits, the highest one first -/
def numL (l : List Int) : Int := l.foldl (fun n b => 2 * n + b) 0
def BitL (l : List Int) : Prop := ∀ x ∈ l, x = 0 ∨ x = 1
/-- the n lowest bits of a number -/
def lowS (v : Int) (n : Nat) : List Int := (List.range n).map fun j => v / 2 ^ (n - 1 - j) % 2
theorem pow_pos2 (n : Nat) : (0 : Int) < 2 ^ n := Int.pow_pos (by decide)
theorem fold_num (l : List Int) : ∀ a : Int, l.foldl (fun n b => 2 * n + b) a = a * 2 ^ l.length + numL l := by
  induction l with
  | nil => intro a; simp [numL]
  | cons b l ih =>
    intro a; unfold numL; rw [List.foldl_cons, List.foldl_cons, ih, ih (2 * 0 + b), List.length_cons, Int.pow_succ]
    have : (2 * a + b) * 2 ^ l.length = a * (2 ^ l.length * 2) + b * 2 ^ l.length := by
      rw [Int.add_mul, Int.mul_comm 2 a, Int.mul_assoc, Int.mul_comm 2 (2 ^ l.length)]
    rw [this, Int.mul_zero, Int.zero_add, Int.add_assoc]
theorem numL_cons (b : Int) (l : List Int) : numL (b :: l) = b * 2 ^ l.length + numL l := by
  show (b :: l).foldl _ 0 = _
  rw [List.foldl_cons, fold_num, Int.mul_zero, Int.zero_add]
theorem numL_app (l m : List Int) : numL (l ++ m) = numL l * 2 ^ m.length + numL m := by
  show (l ++ m).foldl _ 0 = _
  rw [List.foldl_append, fold_num]
  rfl
theorem numL_nil : numL [] = 0 := rfl
theorem BitL.tail {b : Int} {l : List Int} (h : BitL (b :: l)) : BitL l := fun x hx => h x (List.mem_cons_of_mem _ hx)
theorem BitL.app {l m : List Int} (h : BitL l) (k : BitL m) : BitL (l ++ m) := fun x hx => (List.mem_append.1 hx).elim (h x) (k x)
theorem BitL.take {l : List Int} (h : BitL l) (n : Nat) : BitL (l.take n) := fun x hx => h x (List.mem_of_mem_take hx)
theorem BitL.drop {l : List Int} (h : BitL l) (n : Nat) : BitL (l.drop n) := fun x hx => h x (List.mem_of_mem_drop hx)
theorem numL_bound (l : List Int) (h : BitL l) : 0 ≤ numL l ∧ numL l < 2 ^ l.length := by
  induction l with
  | nil => simp [numL]
  | cons b l ih =>
    have ih := ih h.tail; have hp := pow_pos2 l.length; rw [numL_cons, List.length_cons, Int.pow_succ]
    rcases h b (List.mem_cons_self ..) with rfl | rfl
    · rw [Int.zero_mul]; omega
    · rw [Int.one_mul]; omega
theorem numL_inj : ∀ (l m : List Int), l.length = m.length → BitL l → BitL m → numL l = numL m → l = m
  | [], [], _, _, _, _ => rfl
  | b :: l, c :: m, hl, hb, hc, h => by
    have hl' : l.length = m.length := by simpa using hl
    rw [numL_cons, numL_cons, hl'] at h; have h1 := numL_bound l hb.tail; have h2 := numL_bound m hc.tail; rw [hl'] at h1; have hp := pow_pos2 m.length
    have e : b = c ∧ numL l = numL m := by
      rcases hb b (List.mem_cons_self ..) with rfl | rfl <;> rcases hc c (List.mem_cons_self ..) with rfl | rfl
      · exact ⟨rfl, by omega⟩
      · exfalso; omega
      · exfalso; omega
      · exact ⟨rfl, by omega⟩
    rw [e.1, numL_inj l m hl' hb.tail hc.tail e.2]
theorem lowS_len (v : Int) (n : Nat) : (lowS v n).length = n := by simp [lowS]
theorem lowS_bit (v : Int) (n : Nat) : BitL (lowS v n) := fun x hx => by
  unfold lowS at hx; obtain ⟨j, _, rfl⟩ := List.mem_map.1 hx; have := Int.emod_nonneg (v / 2 ^ (n - 1 - j)) (by decide : (2 : Int) ≠ 0); have := Int.emod_lt_of_pos (v / 2 ^ (n - 1 - j)) (by decide : (0 : Int) < 2)
  omega
theorem lowS_succ (v : Int) (n : Nat) : lowS v (n + 1) = v / 2 ^ n % 2 :: lowS v n := by
  unfold lowS; rw [List.range_succ_eq_map, List.map_cons, List.map_map]
  congr 1
  refine List.map_congr_left fun j _ => ?_
  show v / 2 ^ (n + 1 - 1 - (j + 1)) % 2 = _
  rw [show n + 1 - 1 - (j + 1) = n - 1 - j by omega]
theorem lowS_zero (v : Int) : lowS v 0 = [] := rfl
theorem numL_lowS (v : Int) (n : Nat) : numL (lowS v n) = v % 2 ^ n := by
  induction n with
  | zero => rw [lowS_zero, numL_nil, Int.pow_zero, Int.emod_one]
  | succ n ih =>
    rw [lowS_succ, numL_cons, lowS_len, ih, Int.pow_succ]; have hp := pow_pos2 n; have h1 : v = 2 ^ n * (v / 2 ^ n) + v % 2 ^ n := (Int.mul_ediv_add_emod v (2 ^ n)).symm; have h2 := Int.emod_nonneg v (Int.ne_of_gt hp); have h3 := Int.emod_lt_of_pos v hp
    generalize hq : v / 2 ^ n = q at *
    generalize hr : v % 2 ^ n = r at *
    generalize hN : (2 : Int) ^ n = N at *
    have h4 : q = 2 * (q / 2) + q % 2 := by omega
    have h5 : v = (q % 2 * N + r) + N * 2 * (q / 2) := by
      rw [h1]; have : N * q = N * (2 * (q / 2) + q % 2) := by rw [← h4]
      rw [this, Int.mul_add, Int.mul_comm N (q % 2), ← Int.mul_assoc]
      omega
    rw [h5, Int.add_mul_emod_self_left]; refine (Int.emod_eq_of_lt ?_ ?_).symm
    · rcases (by omega : q % 2 = 0 ∨ q % 2 = 1) with h | h <;> rw [h] <;> omega
    · rcases (by omega : q % 2 = 0 ∨ q % 2 = 1) with h | h <;> rw [h] <;> omega
theorem lowS_numL {l : List Int} (h : BitL l) : lowS (numL l) l.length = l := by
  refine numL_inj _ _ (lowS_len _ _) (lowS_bit _ _) h ?_; have := numL_bound l h; rw [numL_lowS, Int.emod_eq_of_lt this.1 this.2]
/-- a piece in the middle of bits, as a number -/
theorem numL_mid (a b c : List Int) (hb : BitL b) (hc : BitL c) : numL (a ++ b ++ c) / 2 ^ c.length % 2 ^ b.length = numL b := by
  rw [numL_app, numL_app]; have h1 := numL_bound b hb; have h2 := numL_bound c hc; have hp := pow_pos2 c.length; rw [Int.add_comm (_ * 2 ^ c.length), Int.add_mul_ediv_right _ _ (Int.ne_of_gt hp), Int.ediv_eq_zero_of_lt h2.1 h2.2, Int.zero_add, Int.add_comm, Int.mul_comm, Int.add_mul_emod_self_left, Int.emod_eq_of_lt h1.1 h1.2]
/-- the first q bytes of bits -/
def packN (l : List Int) (q : Nat) : List Int := (List.range q).map fun i => numL ((l.drop (8 * i)).take 8)
def packS (l : List Int) : List Int := packN l (l.length / 8)
def padS (l : List Int) : List Int := l ++ List.replicate ((8 - l.length % 8) % 8) 1
/-- the bytes of bits: with 1s at the end, stuffed -/
def bytesS (l : List Int) : List Int := stuffS (packS (padS l))
theorem packN_len (l : List Int) (q : Nat) : (packN l q).length = q := by simp [packN]
theorem packN_succ (l : List Int) (q : Nat) : packN l (q + 1) = packN l q ++ [numL ((l.drop (8 * q)).take 8)] := by
  unfold packN; rw [List.range_succ, List.map_append]; rfl
theorem packN_app (l m : List Int) (q : Nat) (h : 8 * q ≤ l.length) : packN (l ++ m) q = packN l q := by
  unfold packN; refine List.map_congr_left fun i hi => ?_; have hi : i < q := List.mem_range.1 hi; rw [List.drop_append_of_le_length (by omega), List.take_append_of_le_length (by rw [List.length_drop]; omega)]
/-- one byte of bits, as the writer takes it out of the number of the bits from q0 on -/
theorem byte_of {l : List Int} (h : BitL l) {q0 q : Nat} (h0 : q0 ≤ q) (hq : 8 * (q + 1) ≤ l.length) : numL (l.drop (8 * q0)) / 2 ^ (l.length - 8 * (q + 1)) % 256 = numL ((l.drop (8 * q)).take 8) := by
  have e : l.drop (8 * q0) = (l.drop (8 * q0)).take (8 * (q - q0)) ++ (l.drop (8 * q)).take 8 ++ l.drop (8 * (q + 1)) := by
    have h1 : l.drop (8 * q) = (l.drop (8 * q0)).drop (8 * (q - q0)) := by rw [List.drop_drop, show 8 * q0 + 8 * (q - q0) = 8 * q by omega]
    have h2 : l.drop (8 * (q + 1)) = (l.drop (8 * q)).drop 8 := by rw [List.drop_drop, show 8 * q + 8 = 8 * (q + 1) by omega]
    rw [List.append_assoc, h2, List.take_append_drop, h1, List.take_append_drop]
  have := numL_mid ((l.drop (8 * q0)).take (8 * (q - q0))) ((l.drop (8 * q)).take 8) (l.drop (8 * (q + 1))) ((h.drop _).take _) (h.drop _); rw [← e, List.length_drop, List.length_take, List.length_drop, Nat.min_eq_left (by omega)] at this; exact this
/-- what is left of the number -/
theorem rest_of {l : List Int} (h : BitL l) {q0 q : Nat} (h0 : q0 ≤ q) (hq : 8 * q ≤ l.length) : numL (l.drop (8 * q0)) % 2 ^ (l.length - 8 * q) = numL (l.drop (8 * q)) := by
  have e : l.drop (8 * q0) = (l.drop (8 * q0)).take (8 * (q - q0)) ++ l.drop (8 * q) := by
    rw [show l.drop (8 * q) = (l.drop (8 * q0)).drop (8 * (q - q0)) by rw [List.drop_drop, show 8 * q0 + 8 * (q - q0) = 8 * q by omega], List.take_append_drop]
  have h1 := numL_bound _ (h.drop (8 * q)); rw [List.length_drop] at h1; rw [e, numL_app, List.length_drop, Int.add_comm, Int.mul_comm, Int.add_mul_emod_self_left, Int.emod_eq_of_lt h1.1 h1.2]
/-- the bits of bytes -/
def bitsS (D : List Int) : List Int := D.flatMap fun x => lowS x 8
theorem bitsS_len (D : List Int) : (bitsS D).length = 8 * D.length := by
  unfold bitsS
  induction D with
  | nil => rfl
  | cons x D ih => rw [List.flatMap_cons, List.length_append, ih, lowS_len, List.length_cons]; omega
theorem bitsS_bit (D : List Int) : BitL (bitsS D) := fun x hx => by
  unfold bitsS at hx; obtain ⟨y, _, hy⟩ := List.mem_flatMap.1 hx; exact lowS_bit _ _ x hy
theorem bitsS_get (D : List Int) : ∀ k, k < 8 * D.length → (bitsS D)[k]? = some (bitA D k) := by
  induction D with
  | nil => intro k hk; simp at hk
  | cons x D ih =>
    intro k hk; unfold bitsS; rw [List.flatMap_cons]
    rcases Nat.lt_or_ge k 8 with h | h
    · rw [List.getElem?_append_left (by rw [lowS_len]; exact h)]
      unfold lowS bitA; rw [List.getElem?_map, List.getElem?_range h, show k / 8 = 0 by omega, Nat.mod_eq_of_lt h]
      rfl
    · rw [List.getElem?_append_right (by rw [lowS_len]; exact h), lowS_len]
      have := ih (k - 8) (by rw [List.length_cons] at hk; omega); unfold bitsS at this; rw [this]; unfold bitA; rw [show k / 8 = (k - 8) / 8 + 1 by omega, show (k - 8) % 8 = k % 8 by omega, List.getD_cons_succ]
/-- what the reader takes -/
theorem numA_of (D : List Int) (i : Nat) : ∀ n, i + n ≤ 8 * D.length → numA D i n = numL (((bitsS D).drop i).take n)
  | 0, _ => by simp [numA, numL]
  | n + 1, h => by
    have hl : n < ((bitsS D).drop i).length := by rw [List.length_drop, bitsS_len]; omega
    have e : ((bitsS D).drop i).take (n + 1) = ((bitsS D).drop i).take n ++ [bitA D (i + n)] := by
      rw [List.take_add_one, List.getElem?_drop, bitsS_get D (i + n) (by omega)]
      rfl
    rw [numA, numA_of D i n (by omega), e, numL_app]
    show _ = _ * 2 ^ 1 + (2 * 0 + bitA D (i + n))
    omega
end Tt

namespace Go.Proofs.Ytpjopeojeglogaa
open Go.RowKit Tt
set_option linter.unusedVariables false
set_option linter.unusedSimpArgs false

/-- how many bits a number has -/
def bitLen (a : Nat) : Nat := if a = 0 then 0 else Nat.log2 a + 1
theorem bitLen_le {a n : Nat} : bitLen a ≤ n ↔ a < 2 ^ n := by
  unfold bitLen
  by_cases h : a = 0
  · subst h
    rw [if_pos rfl]; exact ⟨fun _ => Nat.pow_pos (by decide), fun _ => Nat.zero_le _⟩
  · rw [if_neg h]
    exact Nat.log2_lt h
theorem bitLen_lt (a : Nat) : a < 2 ^ bitLen a := bitLen_le.1 (Nat.le_refl _)
theorem bitLen_zero {a : Nat} : bitLen a = 0 ↔ a = 0 := by
  have := @bitLen_le a 0
  simp at this
  exact this
/-- the size of a number; -1: it is too great -/
def sizeS (v : Int) : Int := if bitLen v.natAbs ≤ 15 then (bitLen v.natAbs : Int) else -1
theorem sizeS_cases (v : Int) : (sizeS v = -1 ∧ 15 < bitLen v.natAbs) ∨ (sizeS v = (bitLen v.natAbs : Int) ∧ bitLen v.natAbs ≤ 15) := by
  unfold sizeS
  split
  · exact .inr ⟨rfl, by assumption⟩
  · exact .inl ⟨rfl, by omega⟩
/-- a number's bits -/
def extraV (v : Int) : Int := if v < 0 then v + 2 ^ bitLen v.natAbs - 1 else v
theorem extraV_range {v : Int} : 0 ≤ extraV v ∧ extraV v < 2 ^ bitLen v.natAbs := by
  have h := bitLen_lt v.natAbs; have h2 : ((v.natAbs : Nat) : Int) < 2 ^ bitLen v.natAbs := by exact_mod_cast h
  unfold extraV
  split <;> omega
/-- what bits tell; none: they are none -/
def valueS (V N : Int) : Option Int :=
  if 0 ≤ N ∧ N ≤ 15 ∧ 0 ≤ V ∧ V < 2 ^ N.toNat then (if 0 < N ∧ V < 2 ^ (N.toNat - 1) then some (V - (2 ^ N.toNat - 1)) else some V) else none
/-- a symbol: its class, itself, its bits and how many -/
abbrev Cod := Int × Int × Int × Int
def cdL (x : Cod) : List Int := [x.1, x.2.1, x.2.2.1, x.2.2.2]
def codOf (ac z v : Int) : Cod := (ac, 16 * z + bitLen v.natAbs, extraV v, bitLen v.natAbs)
/-- one number more of a block; none: it is too great -/
def acStep (s : Option (List Cod × Nat)) (v : Int) : Option (List Cod × Nat) :=
  s.bind fun p => if v = 0 then some (p.1, p.2 + 1) else if bitLen v.natAbs ≤ 10 then some (p.1 ++ List.replicate (p.2 / 16) (1, 240, 0, 0) ++ [codOf 1 (p.2 % 16 : Nat) v], 0) else none
def acFrom (l : List Int) (s : Option (List Cod × Nat)) : Option (List Cod × Nat) := l.foldl acStep s
def acEnd (p : List Cod × Nat) : List Cod := if 0 < p.2 then p.1 ++ [(1, 0, 0, 0)] else p.1
/-- a block behind a number, as symbols; none: a number is too great -/
def codeB (b : List Int) (last : Int) : Option (List Cod) :=
  if sizeS last < 0 ∨ sizeS (b.getD 0 0) < 0 ∨ 11 < bitLen (b.getD 0 0 - last).natAbs then none else (acFrom ((toZ b).drop 1) (some ([codOf 0 0 (b.getD 0 0 - last)], 0))).map acEnd
theorem acStep_none (v : Int) : acStep none v = none := rfl
theorem acFrom_none : ∀ l : List Int, acFrom l none = none
  | [] => rfl
  | v :: l => by unfold acFrom; rw [List.foldl_cons, acStep_none]; exact acFrom_none l
theorem acFrom_take {l : List Int} {k : Nat} (h : k < l.length) (s : Option (List Cod × Nat)) : acFrom (l.take (k + 1)) s = acStep (acFrom (l.take k) s) (l.getD k 0) := by
  unfold acFrom; rw [List.take_add_one, List.getElem?_eq_getElem h, List.foldl_append, List.getD_eq_getElem?_getD, List.getElem?_eq_getElem h]
  rfl
end Go.Proofs.Ytpjopeojeglogaa

namespace Go.Proofs.Ytpjopeojeglogaa
open Go.RowKit Tt
set_option linter.unusedVariables false
set_option linter.unusedSimpArgs false

/-- the first code of i + 1 bits, as a number -/
def valS (c : List Int) : Nat → Int
  | 0 => 0
  | i + 1 => 2 * (valS c i + c.getD i 0)
def lvlS (c : List Int) (i : Nat) : List (Int × Nat) := (List.range (c.getD i 0).toNat).map fun (k : Nat) => (valS c i + k, i + 1)
/-- the codes of less than i + 1 bits -/
def codesTo (c : List Int) (i : Nat) : List (Int × Nat) := (List.range i).flatMap (lvlS c)
def codesS (c : List Int) : List (Int × Nat) := codesTo c 16
theorem codesTo_succ (c : List Int) (i : Nat) : codesTo c (i + 1) = codesTo c i ++ lvlS c i := by
  unfold codesTo; rw [List.range_succ, List.flatMap_append]; simp
theorem kraft_val (c : List Int) : ∀ i, i ≤ 15 → kraftS c i = valS c i * 2 ^ (15 - i)
  | 0, _ => by simp [kraftS, valS]
  | i + 1, h => by
    have ih := kraft_val c i (by omega)
    show kraftS c i + c.getD i 0 * 2 ^ (15 - i) = 2 * (valS c i + c.getD i 0) * 2 ^ (15 - (i + 1))
    rw [ih, ← Int.add_mul, show 15 - i = (15 - (i + 1)) + 1 by omega, Int.pow_succ, Int.mul_comm 2, Int.mul_assoc, Int.mul_comm 2]
theorem kraft_next (c : List Int) (i : Nat) (h : i ≤ 15) : kraftS c (i + 1) = (valS c i + c.getD i 0) * 2 ^ (15 - i) := by
  show kraftS c i + c.getD i 0 * 2 ^ (15 - i) = _
  rw [kraft_val c i h, ← Int.add_mul]
theorem kraft_mono (c : List Int) (h : ∀ j, j < 16 → cntOk c j = true) : ∀ i, i ≤ 16 → ∀ j, j ≤ i → kraftS c j ≤ kraftS c i
  | 0, _, j, hj => by obtain rfl : j = 0 := by omega
                      exact Int.le_refl _
  | i + 1, hi, j, hj => by
    rcases Nat.lt_or_ge i j with h1 | h1
    · obtain rfl : j = i + 1 := by omega
      exact Int.le_refl _
    · have := kraft_mono c h i (by omega) j h1
      have h2 := (term_bd (h i (by omega))).1
      show _ ≤ kraftS c i + c.getD i 0 * 2 ^ (15 - i)
      omega
/-- the counts of a table that may be -/
structure CntOk (c : List Int) : Prop where
  ok : ∀ j, j < 16 → cntOk c j = true
  kr : kraftS c 16 < 65536
theorem CntOk.of {c s : List Int} (h : hMay c s = true) : CntOk c ∧ manyS c 16 = s.length ∧ 1 ≤ s.length ∧ s.length ≤ 256 ∧ ∀ i, i < s.length → symOk s i = true := by
  unfold hMay at h; rw [Bool.and_eq_true, Bool.and_eq_true] at h; obtain ⟨⟨h1, h2⟩, h3⟩ := h; unfold endOk at h3; rw [decide_eq_true_eq] at h3; have hs := range_all h2; refine ⟨⟨range_all h1, h3.2.2⟩, h3.1, by omega, ?_, hs⟩
  -- apart symbols below 256
  have hnd : s.Nodup := by
    rw [List.nodup_iff_pairwise_ne, List.pairwise_iff_getElem]; intro i j hi hj hij he; have := (symOk_iff.1 (hs j hj)).2 i hij hi
    simp [hi, hj] at this
    exact this he
  have hsub : s.map Int.toNat ⊆ List.range 256 := fun x hx => by
    obtain ⟨y, hy, rfl⟩ := List.mem_map.1 hx; obtain ⟨i, hi, rfl⟩ := List.mem_iff_getElem.1 hy; have := (symOk_iff.1 (hs i hi)).1
    simp [hi] at this
    rw [List.mem_range]
    omega
  have hnd2 : (s.map Int.toNat).Nodup := by
    rw [List.nodup_iff_pairwise_ne, List.pairwise_map]; refine hnd.imp_of_mem fun {a b} ha hb hab he => hab ?_; obtain ⟨i, hi, rfl⟩ := List.mem_iff_getElem.1 ha; obtain ⟨j, hj, rfl⟩ := List.mem_iff_getElem.1 hb; have h1 := (symOk_iff.1 (hs i hi)).1; have h2 := (symOk_iff.1 (hs j hj)).1
    simp [hi] at h1
    simp [hj] at h2
    omega
  have := List.Nodup.length_le_of_subset hnd2 hsub
  simpa using this
theorem CntOk.val {c : List Int} (h : CntOk c) {i : Nat} (hi : i < 16) : 0 ≤ valS c i ∧ 0 ≤ c.getD i 0 ∧ c.getD i 0 ≤ 256 ∧ (valS c i + c.getD i 0) * 2 ^ (15 - i) < 65536 := by
  have h1 := cntOk_iff.1 (h.ok i hi); have h2 := kraft_val c i (by omega); have h3 := (kraft_bd i fun j hj => h.ok j (by omega)).1; have h4 := kraft_next c i (by omega); have h5 := kraft_mono c h.ok 16 (Nat.le_refl _) (i + 1) (by omega); have h6 := h.kr; refine ⟨?_, h1.1, h1.2, by rw [← h4]; omega⟩; rw [h2] at h3; have hp := pow_pos2 (15 - i)
  rcases (by omega : valS c i < 0 ∨ 0 ≤ valS c i) with hn | hn
  · have := Int.mul_neg_of_neg_of_pos hn hp
    omega
  · exact hn
/-- a code of a table is below that of 1s alone -/
theorem CntOk.small {c : List Int} (h : CntOk c) {i : Nat} (hi : i < 16) : valS c i + c.getD i 0 < 2 ^ (i + 1) := by
  obtain ⟨h1, h2, h3, h4⟩ := h.val hi
  have e : (65536 : Int) = 2 ^ (i + 1) * 2 ^ (15 - i) := by
    rw [← Int.pow_add, show i + 1 + (15 - i) = 16 by omega]; rfl
  rw [e] at h4; exact Int.lt_of_mul_lt_mul_right h4 (Int.le_of_lt (pow_pos2 _))
/-- x stands ahead of y, and does not begin it -/
def Ahead (x y : Int × Nat) : Prop := x.2 ≤ y.2 ∧ (x.1 + 1) * 2 ^ (y.2 - x.2) ≤ y.1
def CodeOk (x : Int × Nat) : Prop := 1 ≤ x.2 ∧ x.2 ≤ 16 ∧ 0 ≤ x.1 ∧ x.1 + 1 < 2 ^ x.2
theorem codes_inv {c : List Int} (h : CntOk c) : ∀ i, i ≤ 16 → (codesTo c i).Pairwise Ahead ∧ (∀ x ∈ codesTo c i, CodeOk x ∧ x.2 ≤ i ∧ (x.1 + 1) * 2 ^ (i + 1 - x.2) ≤ valS c i) ∧ ((codesTo c i).length : Int) = manyS c i
  | 0, _ => ⟨List.Pairwise.nil, by simp [codesTo], rfl⟩
  | i + 1, hi => by
    obtain ⟨h1, h2, h3⟩ := codes_inv h i (by omega); obtain ⟨v1, v2, v3, v4⟩ := h.val (i := i) (by omega); have hsm := h.small (i := i) (by omega); rw [codesTo_succ]
    have hl : ∀ x ∈ lvlS c i, ∃ k : Nat, (k : Int) < c.getD i 0 ∧ x = (valS c i + k, i + 1) := fun x hx => by
      unfold lvlS at hx; obtain ⟨k, hk, rfl⟩ := List.mem_map.1 hx; have := List.mem_range.1 hk; exact ⟨k, by omega, rfl⟩
    refine ⟨List.pairwise_append.2 ⟨h1, ?_, fun x hx y hy => ?_⟩, fun x hx => ?_, ?_⟩
    · unfold lvlS
      rw [List.pairwise_map]; refine List.Pairwise.imp ?_ List.pairwise_lt_range; intro a b hab; refine ⟨Nat.le_refl _, ?_⟩
      show (valS c i + a + 1) * 2 ^ (i + 1 - (i + 1)) ≤ valS c i + b
      rw [Nat.sub_self, Int.pow_zero, Int.mul_one]
      omega
    · obtain ⟨k, hk, rfl⟩ := hl y hy
      obtain ⟨_, h4, h5⟩ := h2 x hx; exact ⟨by show x.2 ≤ i + 1; omega, by show (x.1 + 1) * 2 ^ (i + 1 - x.2) ≤ valS c i + k; omega⟩
    · rcases List.mem_append.1 hx with hx | hx
      · obtain ⟨h4, h5, h6⟩ := h2 x hx
        refine ⟨h4, by omega, ?_⟩
        show _ ≤ 2 * (valS c i + c.getD i 0)
        rw [show i + 1 + 1 - x.2 = (i + 1 - x.2) + 1 by omega, Int.pow_succ, ← Int.mul_assoc]
        omega
      · obtain ⟨k, hk, rfl⟩ := hl x hx
        refine ⟨⟨by simp, by show i + 1 ≤ 16; omega, by show 0 ≤ valS c i + k; omega, by show valS c i + k + 1 < 2 ^ (i + 1); omega⟩, Nat.le_refl _, ?_⟩
        show (valS c i + k + 1) * 2 ^ (i + 1 + 1 - (i + 1)) ≤ 2 * (valS c i + c.getD i 0)
        rw [show i + 1 + 1 - (i + 1) = 1 by omega, Int.pow_one]
        omega
    · rw [List.length_append, Int.natCast_add, h3]
      show _ = manyS c i + c.getD i 0
      have e : (lvlS c i).length = (c.getD i 0).toNat := by unfold lvlS; rw [List.length_map, List.length_range]
      rw [e]
      omega
theorem codes_ahead {c : List Int} (h : CntOk c) : (codesS c).Pairwise Ahead := (codes_inv h 16 (Nat.le_refl _)).1
theorem codes_ok {c : List Int} (h : CntOk c) {x : Int × Nat} (hx : x ∈ codesS c) : CodeOk x := ((codes_inv h 16 (Nat.le_refl _)).2.1 x hx).1
theorem codes_len {c s : List Int} (h : hMay c s = true) : (codesS c).length = s.length := by
  obtain ⟨h1, h2, _⟩ := CntOk.of h; have := (codes_inv h1 16 (Nat.le_refl _)).2.2; unfold codesS
  omega
/-- the symbol whose code stands at the beginning of bits -/
def nextS (c s : List Int) (l : List Int) : Option (Int × Nat) :=
  ((List.range s.length).find? fun i => let x := (codesS c).getD i (0, 0); decide (x.2 ≤ l.length) && (l.take x.2 == lowS x.1 x.2)).map fun i => (s.getD i 0, ((codesS c).getD i (0, 0)).2)
/-- a symbol's code -/
def codeS (c s : List Int) (x : Int) : Option (Int × Nat) :=
  if hMay c s then ((List.range s.length).find? fun i => s.getD i 0 == x).map fun i => (codesS c).getD i (0, 0) else none
end Go.Proofs.Ytpjopeojeglogaa

namespace Go.Proofs.Ytpjopeojeglogaa
open Go.RowKit Tt
set_option linter.unusedVariables false
set_option linter.unusedSimpArgs false

/-- which code stands at some place -/
theorem ahead_ne {c : List Int} (h : CntOk c) {i j : Nat} (hij : i < j) (hj : j < (codesS c).length) : Ahead ((codesS c).getD i (0, 0)) ((codesS c).getD j (0, 0)) := by
  have := List.pairwise_iff_getElem.1 (codes_ahead h) i j (by omega) hj hij
  simpa [show i < (codesS c).length by omega, hj] using this
theorem code_at {c : List Int} (h : CntOk c) {i : Nat} (hi : i < (codesS c).length) : CodeOk ((codesS c).getD i (0, 0)) := by
  have : (codesS c).getD i (0, 0) ∈ codesS c := by simp [hi]
  exact codes_ok h this
/-- the code i stands at the beginning of the bits -/
def Hits (c : List Int) (l : List Int) (i : Nat) : Prop := ((codesS c).getD i (0, 0)).2 ≤ l.length ∧ l.take ((codesS c).getD i (0, 0)).2 = lowS ((codesS c).getD i (0, 0)).1 ((codesS c).getD i (0, 0)).2
theorem hits_num {c l : List Int} (h : CntOk c) (hl : BitL l) {i : Nat} (hi : i < (codesS c).length) : Hits c l i ↔ (((codesS c).getD i (0, 0)).2 ≤ l.length ∧ numL (l.take ((codesS c).getD i (0, 0)).2) = ((codesS c).getD i (0, 0)).1) := by
  have hok := code_at h hi; obtain ⟨x, hx⟩ : ∃ x, (codesS c).getD i (0, 0) = x := ⟨_, rfl⟩; unfold Hits; rw [hx] at hok ⊢; refine and_congr_right fun h1 => ⟨fun h2 => ?_, fun h2 => ?_⟩
  · rw [h2, numL_lowS, Int.emod_eq_of_lt hok.2.2.1 (by have := hok.2.2.2; omega)]
  · rw [← h2]
    have := lowS_numL (hl.take x.2); rw [List.length_take, Nat.min_eq_left h1] at this; exact this.symm
/-- no two codes stand at the beginning of the same bits -/
theorem hits_one {c l : List Int} (h : CntOk c) (hl : BitL l) {i j : Nat} (hij : i < j) (hj : j < (codesS c).length) (h1 : Hits c l i) (h2 : Hits c l j) : False := by
  have ha := ahead_ne h hij hj; rw [hits_num h hl (by omega)] at h1; rw [hits_num h hl hj] at h2; obtain ⟨x, hx⟩ : ∃ x, (codesS c).getD i (0, 0) = x := ⟨_, rfl⟩; obtain ⟨y, hy⟩ : ∃ y, (codesS c).getD j (0, 0) = y := ⟨_, rfl⟩; rw [hx] at h1 ha; rw [hy] at h2 ha; obtain ⟨a1, a2⟩ := ha
  have e : l.take y.2 = l.take x.2 ++ (l.drop x.2).take (y.2 - x.2) := by
    rw [← List.take_add, show x.2 + (y.2 - x.2) = y.2 by omega]
  have hb := numL_bound _ ((hl.drop x.2).take (y.2 - x.2)); have hlen : ((l.drop x.2).take (y.2 - x.2)).length = y.2 - x.2 := by rw [List.length_take, List.length_drop]; omega
  have h3 := h2.2; rw [e, numL_app, hlen, h1.2] at h3; rw [hlen] at hb; rw [Int.add_mul, Int.one_mul] at a2
  omega
theorem nextS_hit {c s l : List Int} (hm : hMay c s = true) (hl : BitL l) {i : Nat} (hi : i < s.length) (h : Hits c l i) : nextS c s l = some (s.getD i 0, ((codesS c).getD i (0, 0)).2) := by
  obtain ⟨hc, _⟩ := CntOk.of hm; have hlen := codes_len hm
  have hf : ((List.range s.length).find? fun i => let x := (codesS c).getD i (0, 0); decide (x.2 ≤ l.length) && (l.take x.2 == lowS x.1 x.2)) = some i := by
    rw [List.find?_range_eq_some]; refine ⟨by simpa [Hits] using h, List.mem_range.2 hi, fun j hj => ?_⟩
    rcases Bool.eq_false_or_eq_true (decide (((codesS c).getD j (0, 0)).2 ≤ l.length) && (l.take ((codesS c).getD j (0, 0)).2 == lowS ((codesS c).getD j (0, 0)).1 ((codesS c).getD j (0, 0)).2)) with hb | hb
    · exfalso
      rw [Bool.and_eq_true, decide_eq_true_eq, beq_iff_eq] at hb; exact hits_one hc hl hj (by omega) hb h
    · show (!(_ && _)) = true
      rw [hb]
      rfl
  unfold nextS; rw [hf]
  rfl
theorem nextS_no {c s l : List Int} (h : ∀ i, i < s.length → ¬ Hits c l i) : nextS c s l = none := by
  unfold nextS; rw [List.find?_eq_none.2 fun i hi => ?_]
  · rfl
  · intro hb
    simp only [Bool.and_eq_true, decide_eq_true_eq, beq_iff_eq] at hb; exact h i (List.mem_range.1 hi) hb
/-- what is taken by looking up the first 1, 2 .. bits -/
theorem nextS_look {c s l : List Int} (hm : hMay c s = true) (hl : BitL l) {i n : Nat} (hi : i < s.length) (hn : n ≤ l.length) (h : (codesS c).getD i (0, 0) = (numL (l.take n), n)) : nextS c s l = some (s.getD i 0, n) := by
  obtain ⟨hc, _⟩ := CntOk.of hm; have hlen := codes_len hm; have := nextS_hit hm hl hi ((hits_num hc hl (by omega)).2 (by rw [h]; exact ⟨hn, rfl⟩)); rw [h] at this; exact this
theorem nextS_none {c s l : List Int} (hm : hMay c s = true) (hl : BitL l) (h : ∀ n, 1 ≤ n → n ≤ 16 → n ≤ l.length → ∀ i, i < s.length → (codesS c).getD i (0, 0) ≠ (numL (l.take n), n)) : nextS c s l = none := by
  obtain ⟨hc, _⟩ := CntOk.of hm; have hlen := codes_len hm; refine nextS_no fun i hi hh => ?_; have hok := code_at hc (by omega : i < (codesS c).length); obtain ⟨h1, h2⟩ := (hits_num hc hl (by omega)).1 hh; exact h _ hok.1 hok.2.1 h1 i hi (by rw [h2])
theorem nextS_le {c s l : List Int} {x : Int} {n : Nat} (hm : hMay c s = true) (h : nextS c s l = some (x, n)) : 1 ≤ n ∧ n ≤ 16 ∧ n ≤ l.length ∧ ∃ i, i < s.length ∧ s.getD i 0 = x ∧ ((codesS c).getD i (0, 0)).2 = n ∧ Hits c l i := by
  obtain ⟨hc, _⟩ := CntOk.of hm; have hlen := codes_len hm; unfold nextS at h; obtain ⟨i, hf, he⟩ := Option.map_eq_some_iff.1 h; have h1 := List.find?_some hf; have hi := List.mem_range.1 (List.mem_of_find?_eq_some hf); simp only [Bool.and_eq_true, decide_eq_true_eq, beq_iff_eq] at h1; have hok := code_at hc (by omega : i < (codesS c).length); injection he with e1 e2; subst e1 e2; exact ⟨hok.1, hok.2.1, h1.1, i, hi, rfl, rfl, h1⟩
end Go.Proofs.Ytpjopeojeglogaa
