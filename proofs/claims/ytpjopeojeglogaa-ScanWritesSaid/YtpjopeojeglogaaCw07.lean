/- Chapter 4 (plain): the codes of a table, in order; none begins another one; which symbol is taken from bits. | Chapter 4 (plain): what the program takes is what the document takes. | Chapter 3: bits.plain, Stuff. | Chapter 14: bytes taken one behind the other: the program's reader. | Chapter 3: the reader of bits: New, Left, Take. -/
import Derived.Test.YtpjopeojeglogaaCw00
import Derived.Test.YtpjopeojeglogaaCw06
import Derived.Test.YtpjopeojeglogaaCw05
import Derived.Test.YtpjopeojeglogaaCw01
import Derived.Test.YtpjopeojeglogaaCw02
namespace Go.Proofs.Ytpjopeojeglogaa
open Go.RowKit Tt
set_option linter.unusedVariables false
set_option linter.unusedSimpArgs false

/-- the first code of i + 1 bits, as a number -/
def valS (c : List Int) : Nat → Int
  | 0 => 0
  | i + 1 => 2 * (valS c i + c.getD i 0)
def lvlS (c : List Int) (i : Nat) : List (Int × Nat) := (List.range (c.getD i 0).toNat).map fun (k : Nat) => (valS c i + k, i + 1)
/-- the codes of less than i + 1 bits -/
def codesTo (c : List Int) (i : Nat) : List (Int × Nat) := (List.range i).flatMap (lvlS c)
def codesS (c : List Int) : List (Int × Nat) := codesTo c 16
theorem codesTo_succ (c : List Int) (i : Nat) : codesTo c (i + 1) = codesTo c i ++ lvlS c i := by
  unfold codesTo; rw [List.range_succ, List.flatMap_append]; simp
theorem kraft_val (c : List Int) : ∀ i, i ≤ 15 → kraftS c i = valS c i * 2 ^ (15 - i)
  | 0, _ => by simp [kraftS, valS]
  | i + 1, h => by
    have ih := kraft_val c i (by omega)
    show kraftS c i + c.getD i 0 * 2 ^ (15 - i) = 2 * (valS c i + c.getD i 0) * 2 ^ (15 - (i + 1))
    rw [ih, ← Int.add_mul, show 15 - i = (15 - (i + 1)) + 1 by omega, Int.pow_succ, Int.mul_comm 2, Int.mul_assoc, Int.mul_comm 2]
theorem kraft_next (c : List Int) (i : Nat) (h : i ≤ 15) : kraftS c (i + 1) = (valS c i + c.getD i 0) * 2 ^ (15 - i) := by
  show kraftS c i + c.getD i 0 * 2 ^ (15 - i) = _
  rw [kraft_val c i h, ← Int.add_mul]
theorem kraft_mono (c : List Int) (h : ∀ j, j < 16 → cntOk c j = true) : ∀ i, i ≤ 16 → ∀ j, j ≤ i → kraftS c j ≤ kraftS c i
  | 0, _, j, hj => by obtain rfl : j = 0 := by omega
                      exact Int.le_refl _
  | i + 1, hi, j, hj => by
    rcases Nat.lt_or_ge i j with h1 | h1
    · obtain rfl : j = i + 1 := by omega
      exact Int.le_refl _
    · have := kraft_mono c h i (by omega) j h1
      have h2 := (term_bd (h i (by omega))).1
      show _ ≤ kraftS c i + c.getD i 0 * 2 ^ (15 - i)
      omega
/-- the counts of a table that may be -/
structure CntOk (c : List Int) : Prop where
  ok : ∀ j, j < 16 → cntOk c j = true
  kr : kraftS c 16 < 65536
theorem CntOk.of {c s : List Int} (h : hMay c s = true) : CntOk c ∧ manyS c 16 = s.length ∧ 1 ≤ s.length ∧ s.length ≤ 256 ∧ ∀ i, i < s.length → symOk s i = true := by
  unfold hMay at h; rw [Bool.and_eq_true, Bool.and_eq_true] at h; obtain ⟨⟨h1, h2⟩, h3⟩ := h; unfold endOk at h3; rw [decide_eq_true_eq] at h3; have hs := range_all h2; refine ⟨⟨range_all h1, h3.2.2⟩, h3.1, by omega, ?_, hs⟩
  -- apart symbols below 256
  have hnd : s.Nodup := by
    rw [List.nodup_iff_pairwise_ne, List.pairwise_iff_getElem]; intro i j hi hj hij he; have := (symOk_iff.1 (hs j hj)).2 i hij hi
    simp [hi, hj] at this
    exact this he
  have hsub : s.map Int.toNat ⊆ List.range 256 := fun x hx => by
    obtain ⟨y, hy, rfl⟩ := List.mem_map.1 hx; obtain ⟨i, hi, rfl⟩ := List.mem_iff_getElem.1 hy; have := (symOk_iff.1 (hs i hi)).1
    simp [hi] at this
    rw [List.mem_range]
    omega
  have hnd2 : (s.map Int.toNat).Nodup := by
    rw [List.nodup_iff_pairwise_ne, List.pairwise_map]; refine hnd.imp_of_mem fun {a b} ha hb hab he => hab ?_; obtain ⟨i, hi, rfl⟩ := List.mem_iff_getElem.1 ha; obtain ⟨j, hj, rfl⟩ := List.mem_iff_getElem.1 hb; have h1 := (symOk_iff.1 (hs i hi)).1; have h2 := (symOk_iff.1 (hs j hj)).1
    simp [hi] at h1
    simp [hj] at h2
    omega
  have := List.Nodup.length_le_of_subset hnd2 hsub
  simpa using this
theorem CntOk.val {c : List Int} (h : CntOk c) {i : Nat} (hi : i < 16) : 0 ≤ valS c i ∧ 0 ≤ c.getD i 0 ∧ c.getD i 0 ≤ 256 ∧ (valS c i + c.getD i 0) * 2 ^ (15 - i) < 65536 := by
  have h1 := cntOk_iff.1 (h.ok i hi); have h2 := kraft_val c i (by omega); have h3 := (kraft_bd i fun j hj => h.ok j (by omega)).1; have h4 := kraft_next c i (by omega); have h5 := kraft_mono c h.ok 16 (Nat.le_refl _) (i + 1) (by omega); have h6 := h.kr; refine ⟨?_, h1.1, h1.2, by rw [← h4]; omega⟩; rw [h2] at h3; have hp := pow_pos2 (15 - i)
  rcases (by omega : valS c i < 0 ∨ 0 ≤ valS c i) with hn | hn
  · have := Int.mul_neg_of_neg_of_pos hn hp
    omega
  · exact hn
/-- a code of a table is below that of 1s alone -/
theorem CntOk.small {c : List Int} (h : CntOk c) {i : Nat} (hi : i < 16) : valS c i + c.getD i 0 < 2 ^ (i + 1) := by
  obtain ⟨h1, h2, h3, h4⟩ := h.val hi
  have e : (65536 : Int) = 2 ^ (i + 1) * 2 ^ (15 - i) := by
    rw [← Int.pow_add, show i + 1 + (15 - i) = 16 by omega]; rfl
  rw [e] at h4; exact Int.lt_of_mul_lt_mul_right h4 (Int.le_of_lt (pow_pos2 _))
/-- x stands ahead of y, and does not begin it -/
def Ahead (x y : Int × Nat) : Prop := x.2 ≤ y.2 ∧ (x.1 + 1) * 2 ^ (y.2 - x.2) ≤ y.1
def CodeOk (x : Int × Nat) : Prop := 1 ≤ x.2 ∧ x.2 ≤ 16 ∧ 0 ≤ x.1 ∧ x.1 + 1 < 2 ^ x.2
theorem codes_inv {c : List Int} (h : CntOk c) : ∀ i, i ≤ 16 → (codesTo c i).Pairwise Ahead ∧ (∀ x ∈ codesTo c i, CodeOk x ∧ x.2 ≤ i ∧ (x.1 + 1) * 2 ^ (i + 1 - x.2) ≤ valS c i) ∧ ((codesTo c i).length : Int) = manyS c i
  | 0, _ => ⟨List.Pairwise.nil, by simp [codesTo], rfl⟩
  | i + 1, hi => by
    obtain ⟨h1, h2, h3⟩ := codes_inv h i (by omega); obtain ⟨v1, v2, v3, v4⟩ := h.val (i := i) (by omega); have hsm := h.small (i := i) (by omega); rw [codesTo_succ]
    have hl : ∀ x ∈ lvlS c i, ∃ k : Nat, (k : Int) < c.getD i 0 ∧ x = (valS c i + k, i + 1) := fun x hx => by
      unfold lvlS at hx; obtain ⟨k, hk, rfl⟩ := List.mem_map.1 hx; have := List.mem_range.1 hk; exact ⟨k, by omega, rfl⟩
    refine ⟨List.pairwise_append.2 ⟨h1, ?_, fun x hx y hy => ?_⟩, fun x hx => ?_, ?_⟩
    · unfold lvlS
      rw [List.pairwise_map]; refine List.Pairwise.imp ?_ List.pairwise_lt_range; intro a b hab; refine ⟨Nat.le_refl _, ?_⟩
      show (valS c i + a + 1) * 2 ^ (i + 1 - (i + 1)) ≤ valS c i + b
      rw [Nat.sub_self, Int.pow_zero, Int.mul_one]
      omega
    · obtain ⟨k, hk, rfl⟩ := hl y hy
      obtain ⟨_, h4, h5⟩ := h2 x hx; exact ⟨by show x.2 ≤ i + 1; omega, by show (x.1 + 1) * 2 ^ (i + 1 - x.2) ≤ valS c i + k; omega⟩
    · rcases List.mem_append.1 hx with hx | hx
      · obtain ⟨h4, h5, h6⟩ := h2 x hx
        refine ⟨h4, by omega, ?_⟩
        show _ ≤ 2 * (valS c i + c.getD i 0)
        rw [show i + 1 + 1 - x.2 = (i + 1 - x.2) + 1 by omega, Int.pow_succ, ← Int.mul_assoc]
        omega
      · obtain ⟨k, hk, rfl⟩ := hl x hx
        refine ⟨⟨by simp, by show i + 1 ≤ 16; omega, by show 0 ≤ valS c i + k; omega, by show valS c i + k + 1 < 2 ^ (i + 1); omega⟩, Nat.le_refl _, ?_⟩
        show (valS c i + k + 1) * 2 ^ (i + 1 + 1 - (i + 1)) ≤ 2 * (valS c i + c.getD i 0)
        rw [show i + 1 + 1 - (i + 1) = 1 by omega, Int.pow_one]
        omega
    · rw [List.length_append, Int.natCast_add, h3]
      show _ = manyS c i + c.getD i 0
      have e : (lvlS c i).length = (c.getD i 0).toNat := by unfold lvlS; rw [List.length_map, List.length_range]
      rw [e]
      omega
theorem codes_ahead {c : List Int} (h : CntOk c) : (codesS c).Pairwise Ahead := (codes_inv h 16 (Nat.le_refl _)).1
theorem codes_ok {c : List Int} (h : CntOk c) {x : Int × Nat} (hx : x ∈ codesS c) : CodeOk x := ((codes_inv h 16 (Nat.le_refl _)).2.1 x hx).1
theorem codes_len {c s : List Int} (h : hMay c s = true) : (codesS c).length = s.length := by
  obtain ⟨h1, h2, _⟩ := CntOk.of h; have := (codes_inv h1 16 (Nat.le_refl _)).2.2; unfold codesS
  omega
/-- the symbol whose code stands at the beginning of bits -/
def nextS (c s : List Int) (l : List Int) : Option (Int × Nat) :=
  ((List.range s.length).find? fun i => let x := (codesS c).getD i (0, 0); decide (x.2 ≤ l.length) && (l.take x.2 == lowS x.1 x.2)).map fun i => (s.getD i 0, ((codesS c).getD i (0, 0)).2)
/-- a symbol's code -/
def codeS (c s : List Int) (x : Int) : Option (Int × Nat) :=
  if hMay c s then ((List.range s.length).find? fun i => s.getD i 0 == x).map fun i => (codesS c).getD i (0, 0) else none
end Go.Proofs.Ytpjopeojeglogaa

namespace Go.Proofs.Ytpjopeojeglogaa
open Go.RowKit Tt
set_option linter.unusedVariables false
set_option linter.unusedSimpArgs false

/-- which code stands at some place -/
theorem ahead_ne {c : List Int} (h : CntOk c) {i j : Nat} (hij : i < j) (hj : j < (codesS c).length) : Ahead ((codesS c).getD i (0, 0)) ((codesS c).getD j (0, 0)) := by
  have := List.pairwise_iff_getElem.1 (codes_ahead h) i j (by omega) hj hij
  simpa [show i < (codesS c).length by omega, hj] using this
theorem code_at {c : List Int} (h : CntOk c) {i : Nat} (hi : i < (codesS c).length) : CodeOk ((codesS c).getD i (0, 0)) := by
  have : (codesS c).getD i (0, 0) ∈ codesS c := by simp [hi]
  exact codes_ok h this
/-- the code i stands at the beginning of the bits -/
def Hits (c : List Int) (l : List Int) (i : Nat) : Prop := ((codesS c).getD i (0, 0)).2 ≤ l.length ∧ l.take ((codesS c).getD i (0, 0)).2 = lowS ((codesS c).getD i (0, 0)).1 ((codesS c).getD i (0, 0)).2
theorem hits_num {c l : List Int} (h : CntOk c) (hl : BitL l) {i : Nat} (hi : i < (codesS c).length) : Hits c l i ↔ (((codesS c).getD i (0, 0)).2 ≤ l.length ∧ numL (l.take ((codesS c).getD i (0, 0)).2) = ((codesS c).getD i (0, 0)).1) := by
  have hok := code_at h hi; obtain ⟨x, hx⟩ : ∃ x, (codesS c).getD i (0, 0) = x := ⟨_, rfl⟩; unfold Hits; rw [hx] at hok ⊢; refine and_congr_right fun h1 => ⟨fun h2 => ?_, fun h2 => ?_⟩
  · rw [h2, numL_lowS, Int.emod_eq_of_lt hok.2.2.1 (by have := hok.2.2.2; omega)]
  · rw [← h2]
    have := lowS_numL (hl.take x.2); rw [List.length_take, Nat.min_eq_left h1] at this; exact this.symm
/-- no two codes stand at the beginning of the same bits -/
theorem hits_one {c l : List Int} (h : CntOk c) (hl : BitL l) {i j : Nat} (hij : i < j) (hj : j < (codesS c).length) (h1 : Hits c l i) (h2 : Hits c l j) : False := by
  have ha := ahead_ne h hij hj; rw [hits_num h hl (by omega)] at h1; rw [hits_num h hl hj] at h2; obtain ⟨x, hx⟩ : ∃ x, (codesS c).getD i (0, 0) = x := ⟨_, rfl⟩; obtain ⟨y, hy⟩ : ∃ y, (codesS c).getD j (0, 0) = y := ⟨_, rfl⟩; rw [hx] at h1 ha; rw [hy] at h2 ha; obtain ⟨a1, a2⟩ := ha
  have e : l.take y.2 = l.take x.2 ++ (l.drop x.2).take (y.2 - x.2) := by
    rw [← List.take_add, show x.2 + (y.2 - x.2) = y.2 by omega]
  have hb := numL_bound _ ((hl.drop x.2).take (y.2 - x.2)); have hlen : ((l.drop x.2).take (y.2 - x.2)).length = y.2 - x.2 := by rw [List.length_take, List.length_drop]; omega
  have h3 := h2.2; rw [e, numL_app, hlen, h1.2] at h3; rw [hlen] at hb; rw [Int.add_mul, Int.one_mul] at a2
  omega
theorem nextS_hit {c s l : List Int} (hm : hMay c s = true) (hl : BitL l) {i : Nat} (hi : i < s.length) (h : Hits c l i) : nextS c s l = some (s.getD i 0, ((codesS c).getD i (0, 0)).2) := by
  obtain ⟨hc, _⟩ := CntOk.of hm; have hlen := codes_len hm
  have hf : ((List.range s.length).find? fun i => let x := (codesS c).getD i (0, 0); decide (x.2 ≤ l.length) && (l.take x.2 == lowS x.1 x.2)) = some i := by
    rw [List.find?_range_eq_some]; refine ⟨by simpa [Hits] using h, List.mem_range.2 hi, fun j hj => ?_⟩
    rcases Bool.eq_false_or_eq_true (decide (((codesS c).getD j (0, 0)).2 ≤ l.length) && (l.take ((codesS c).getD j (0, 0)).2 == lowS ((codesS c).getD j (0, 0)).1 ((codesS c).getD j (0, 0)).2)) with hb | hb
    · exfalso
      rw [Bool.and_eq_true, decide_eq_true_eq, beq_iff_eq] at hb; exact hits_one hc hl hj (by omega) hb h
    · show (!(_ && _)) = true
      rw [hb]
      rfl
  unfold nextS; rw [hf]
  rfl
theorem nextS_no {c s l : List Int} (h : ∀ i, i < s.length → ¬ Hits c l i) : nextS c s l = none := by
  unfold nextS; rw [List.find?_eq_none.2 fun i hi => ?_]
  · rfl
  · intro hb
    simp only [Bool.and_eq_true, decide_eq_true_eq, beq_iff_eq] at hb; exact h i (List.mem_range.1 hi) hb
/-- what is taken by looking up the first 1, 2 .. bits -/
theorem nextS_look {c s l : List Int} (hm : hMay c s = true) (hl : BitL l) {i n : Nat} (hi : i < s.length) (hn : n ≤ l.length) (h : (codesS c).getD i (0, 0) = (numL (l.take n), n)) : nextS c s l = some (s.getD i 0, n) := by
  obtain ⟨hc, _⟩ := CntOk.of hm; have hlen := codes_len hm; have := nextS_hit hm hl hi ((hits_num hc hl (by omega)).2 (by rw [h]; exact ⟨hn, rfl⟩)); rw [h] at this; exact this
theorem nextS_none {c s l : List Int} (hm : hMay c s = true) (hl : BitL l) (h : ∀ n, 1 ≤ n → n ≤ 16 → n ≤ l.length → ∀ i, i < s.length → (codesS c).getD i (0, 0) ≠ (numL (l.take n), n)) : nextS c s l = none := by
  obtain ⟨hc, _⟩ := CntOk.of hm; have hlen := codes_len hm; refine nextS_no fun i hi hh => ?_; have hok := code_at hc (by omega : i < (codesS c).length); obtain ⟨h1, h2⟩ := (hits_num hc hl (by omega)).1 hh; exact h _ hok.1 hok.2.1 h1 i hi (by rw [h2])
theorem nextS_le {c s l : List Int} {x : Int} {n : Nat} (hm : hMay c s = true) (h : nextS c s l = some (x, n)) : 1 ≤ n ∧ n ≤ 16 ∧ n ≤ l.length ∧ ∃ i, i < s.length ∧ s.getD i 0 = x ∧ ((codesS c).getD i (0, 0)).2 = n ∧ Hits c l i := by
  obtain ⟨hc, _⟩ := CntOk.of hm; have hlen := codes_len hm; unfold nextS at h; obtain ⟨i, hf, he⟩ := Option.map_eq_some_iff.1 h; have h1 := List.find?_some hf; have hi := List.mem_range.1 (List.mem_of_find?_eq_some hf); simp only [Bool.and_eq_true, decide_eq_true_eq, beq_iff_eq] at h1; have hok := code_at hc (by omega : i < (codesS c).length); injection he with e1 e2; subst e1 e2; exact ⟨hok.1, hok.2.1, h1.1, i, hi, rfl, rfl, h1⟩
end Go.Proofs.Ytpjopeojeglogaa

namespace Go.Proofs.Ytpjopeojeglogaa
open Go.RowKit Tt
set_option linter.unusedVariables false
set_option linter.unusedSimpArgs false

set_option maxRecDepth 20000 in
set_option maxHeartbeats 1000000 in
theorem plain_any (a : Option Addr) (n c : Nat) (z : List Int) (w : World) (hs : Sl w a n c 1 (ints .u8 z)) (hn : n ≤ 1000000) :
    Calls Try.prog 141 #[.slice a n c] w fun e w' => ∃ a2 m c2, e = .returned (.tuple #[.slice a2 m c2, .int .i64 ((plainS z).2 : Nat)]) ∧ m = (plainS z).1.length ∧ w'.ownsRow w.heap.size 5 1 (.slice a2 m c2) m (ints .u8 (plainS z).1) ∧ Below w.heap.size w w' := by
  obtain ⟨i0, hi, hz0, hz1, hz2⟩ := info_parts info8; have hl := hs.ilen; have hs' := Lib.hid hs; have hl' := Lib.hid hl; clear hs hl
  go_enter Try.func141, Try.ntmps141
  go_wp2
  go_loopw [2, 3] (fun ov uv wr => ∃ (u m : Nat) (a2 : Option Addr) (c2 : Nat) (o : List Int), u ≤ n ∧ m ≤ u ∧ uv = .int .i64 u ∧ ov = .slice a2 m c2 ∧ Hid (wr.ownsRow w.heap.size 5 1 (.slice a2 m c2) m (ints .u8 o)) ∧ Hid ((plainS z).1 = o ++ (plainS (z.drop u)).1) ∧ Hid ((plainS z).2 = u + (plainS (z.drop u)).2) ∧ Hid (Below w.heap.size w wr)) (fun _ uv _ => n - (intOf uv).toNat)
  case atStart => exact ⟨0, 0, none, 0, [], by omega, by omega, rfl, rfl, Lib.hid (own_nil _ _ _ _), Lib.hid (by simp), Lib.hid (by simp), Lib.hid (Below.refl _ _)⟩
  case round =>
    obtain ⟨u, m, a2, c2, o, hu, hm, rfl, rfl, hown, h1, h2, hbel⟩ := hrel
    by_cases hlt : u < n
    · obtain ⟨bb, of, rfl, hbb, f⟩ := (hs'.out.mono hbel.out).at hlt
      have f0 := f u _ (ints_get (by rw [hl'.out]; exact hlt)); have hsz := hbel.out.size
      by_cases hc : z.getD u 0 = 255
      · rw [hc] at f0
        by_cases he : u + 1 = n
        · have hend := plainS_end (z := z) (k := u) (by rw [hl'.out]; exact hlt) hc (.inl (by rw [hl'.out]; exact he))
          have hw : IntKind.i64.wrap ((u : Int) + 1) = n := by rw [IntKind.wrap_i64]; omega
          have h1o := h1.out; have h2o := h2.out; rw [hend, List.append_nil] at h1o; rw [hend, Nat.add_zero] at h2o; have hm := (Sl.of_own hown.out).1.ilen; clear f; have hc' := Lib.hid hc; have hend' := Lib.hid hend; have hsz' := Lib.hid hsz; have h1o' := Lib.hid h1o; have h2o' := Lib.hid h2o; have hm' := Lib.hid hm; clear hc hend hsz h1o h2o hm
          go_wp2
          go_ret2
          exact ⟨a2, m, c2, by simp only [h2o'.out]; rfl, by rw [h1o'.out, hm'.out], by rw [h1o'.out]; exact hown.out, hbel.out⟩
        · have f1 := f (u + 1) _ (ints_get (by rw [hl'.out]; omega))
          have hd : ((u : Int) + 1 == (n : Int)) = false := by simp; omega
          have hw : IntKind.i64.wrap ((u : Int) + 1) = (u : Int) + 1 := by rw [IntKind.wrap_i64]; omega
          have hlt1 : u + 1 < n := by omega
          by_cases hz : z.getD (u + 1) 0 = 0
          · have hend := plainS_two (z := z) (k := u) (by rw [hl'.out]; omega) hc hz
            rw [hz] at f1; have h1o := h1.out; have h2o := h2.out; rw [hend] at h1o h2o; clear f; have hc' := Lib.hid hc; have hend' := Lib.hid hend; have hsz' := Lib.hid hsz; have h1o' := Lib.hid h1o; have h2o' := Lib.hid h2o; have he' := Lib.hid he; clear hc hend hsz h1o h2o he
            go_wp2_with (at_builtin; refine wpList_app_lit rfl _ _ 30 rfl w.heap.size 5 i0 _ 1 1 Try.underlying30 hi hz0 hz1 hz2 rfl (by decide) _ m _ rfl hown.out #[.int .u8 255] rfl rfl (by simp [Value.oneCell']) (by omega) (by decide) w hbel.out hsz'.out ?_; intro a5 c5 w5 ho5 hb5; have Ho5 := Lib.hid ho5; have Hb5 := Lib.hid hb5; clear ho5 hb5)
            go_roundw
            case rel => exact ⟨u + 2, m + 1, a5, c5, o ++ [255], by omega, by omega, by go_num, rfl, Lib.hid (ints_append (k := .u8) ▸ Ho5.out), Lib.hid (by rw [h1o'.out, List.append_assoc]; rfl), Lib.hid (by rw [h2o'.out]; omega), Hb5⟩
            case measure => simp [intOf]; omega
          · have hend := plainS_end (z := z) (k := u) (by rw [hl'.out]; exact hlt) hc (.inr hz)
            have hzd : (z.getD (u + 1) 0 != 0) = true := by simpa using hz
            obtain ⟨x1, hx1⟩ : ∃ x, z.getD (u + 1) 0 = x := ⟨_, rfl⟩; rw [hx1] at f1 hzd; have h1o := h1.out; have h2o := h2.out; rw [hend, List.append_nil] at h1o; rw [hend, Nat.add_zero] at h2o; have hm := (Sl.of_own hown.out).1.ilen; clear f hz; have hc' := Lib.hid hc; have hend' := Lib.hid hend; have hsz' := Lib.hid hsz; have h1o' := Lib.hid h1o; have h2o' := Lib.hid h2o; have hm' := Lib.hid hm; have hx1' := Lib.hid hx1; have he' := Lib.hid he; clear hc hend hsz h1o h2o hm hx1 he
            go_wp2
            go_ret2
            exact ⟨a2, m, c2, by simp only [h2o'.out]; rfl, by rw [h1o'.out, hm'.out], by rw [h1o'.out]; exact hown.out, hbel.out⟩
      · have hend := plainS_one (z := z) (k := u) (by rw [hl'.out]; exact hlt) hc
        have hcd : (z.getD u 0 != 255) = true := by simpa using hc
        obtain ⟨x0, hx0⟩ : ∃ x, z.getD u 0 = x := ⟨_, rfl⟩; rw [hx0] at f0 hcd hend; have h1o := h1.out; have h2o := h2.out; rw [hend] at h1o h2o; clear f hc; have hend' := Lib.hid hend; have hsz' := Lib.hid hsz; have h1o' := Lib.hid h1o; have h2o' := Lib.hid h2o; have hx0' := Lib.hid hx0; clear hend hsz h1o h2o hx0
        go_wp2_with (at_builtin; refine wpList_app_lit rfl _ _ 30 rfl w.heap.size 5 i0 _ 1 1 Try.underlying30 hi hz0 hz1 hz2 rfl (by decide) _ m _ rfl hown.out #[.int .u8 x0] rfl rfl (by simp [Value.oneCell']) (by omega) (by decide) w hbel.out hsz'.out ?_; intro a5 c5 w5 ho5 hb5; have Ho5 := Lib.hid ho5; have Hb5 := Lib.hid hb5; clear ho5 hb5)
        go_roundw
        case rel => exact ⟨u + 1, m + 1, a5, c5, o ++ [x0], by omega, by omega, by go_num, rfl, Lib.hid (ints_append (k := .u8) ▸ Ho5.out), Lib.hid (by rw [h1o'.out, List.append_assoc]; rfl), Lib.hid (by rw [h2o'.out]; omega), Hb5⟩
        case measure => simp [intOf]; omega
    · obtain rfl : u = n := by omega
      have hend := plainS_nil (z := z) (k := u) (Nat.le_of_eq hl'.out); have h1o := h1.out; have h2o := h2.out; rw [hend, List.append_nil] at h1o; rw [hend, Nat.add_zero] at h2o; have hm := (Sl.of_own hown.out).1.ilen; have hend' := Lib.hid hend; have h1o' := Lib.hid h1o; have h2o' := Lib.hid h2o; have hm' := Lib.hid hm; clear hend h1o h2o hm
      go_wp2
      go_ret2
      exact ⟨a2, m, c2, by simp only [h2o'.out]; rfl, by rw [h1o'.out, hm'.out], by rw [h1o'.out]; exact hown.out, hbel.out⟩
end Go.Proofs.Ytpjopeojeglogaa

namespace Tt
open Go Go.RowKit
set_option linter.unusedVariables false
set_option linter.unusedSimpArgs false
theorem fold_set (off : Nat) : ∀ (l : List Value) (k : Nat) (cs : Array Value), off + k + l.length ≤ cs.size →
    ((l.zipIdx k).foldl (fun cs (p : Value × Nat) => cs.setIfInBounds (off + p.2) p.1) cs).toList = cs.toList.take (off + k) ++ l ++ cs.toList.drop (off + k + l.length)
  | [], k, cs, h => by simp
  | x :: l, k, cs, h => by
    have hl : off + (k + 1) + l.length ≤ (cs.setIfInBounds (off + k) x).size := by simp at h ⊢; omega
    have ih := fold_set off l (k + 1) (cs.setIfInBounds (off + k) x) hl; simp only [List.zipIdx_cons, List.foldl_cons]; rw [ih]; have hk : off + k < cs.size := by simp at h; omega
    rw [Array.toList_setIfInBounds]
    apply List.ext_getElem?
    intro i; simp only [List.getElem?_append, List.length_append, List.length_take, List.length_set, Array.length_toList, List.length_cons, List.getElem?_take, List.getElem?_drop, List.getElem?_set]; have e1 : min (off + (k + 1)) cs.size = off + k + 1 := by omega
    have e2 : min (off + k) cs.size = off + k := by omega
    rw [e1, e2]
    by_cases c1 : i < off + k
    · simp [c1, show i < off + k + 1 by omega, show i < off + (k + 1) by omega, show i < off + k + 1 + l.length by omega, show i < off + k + (l.length + 1) by omega, show off + k ≠ i by omega]
    · by_cases c2 : i = off + k
      · subst c2
        simp [hk, show off + k < off + (k + 1) by omega, show off + k < off + k + 1 + l.length by omega]
      · by_cases c3 : i < off + k + 1 + l.length
        · have : i - (off + k) = (i - (off + k + 1)) + 1 := by omega
          simp [c1, c3, show ¬ i < off + k + 1 by omega, show i < off + k + (l.length + 1) by omega, this]
        · simp [c3, show ¬ i < off + k + (l.length + 1) by omega, show off + (k + 1) + l.length + (i - (off + k + 1 + l.length)) = off + k + (l.length + 1) + (i - (off + k + (l.length + 1))) by omega]
          intro hh
          omega
section
variable {P : Program} {ops : Array Oper} {rest : List Oper} {o : Oper} {a : Act} {w : World} {Q : Exit → Act → World → Prop}
end
end Tt
namespace Go.Proofs.Ytpjopeojeglogaa
open Go.RowKit Tt
set_option linter.unusedVariables false
set_option linter.unusedSimpArgs false
theorem sizeU8 (w : World) : (Go.sizeOf 5).run Try.prog w = .ok 1 w := by kernel_rfl
end Go.Proofs.Ytpjopeojeglogaa

namespace Go.Proofs.Ytpjopeojeglogaa
open Go.RowKit Tt
set_option linter.unusedVariables false
set_option linter.unusedSimpArgs false

/-- what stands behind the pointer of a reader of bits: the data, and how many bits were taken -/
structure Rb (w : World) (rb : Nat) (a : Option Addr) (n c : Nat) (D : List Int) (at' : Nat) : Prop where
  blk : Blk w rb 203 #[.slice a n c, .int .i64 at']
  sl : Sl w a n c 1 (ints .u8 D)
  ne : ∀ x, a = some x → x.block ≠ rb
  le : at' ≤ 8 * n
  n1 : n ≤ 1000000
  byt : Byt D
  lt : ∀ x, a = some x → x.block < w.heap.size
theorem Rb.qt {w w' : World} {rb : Nat} {a : Option Addr} {n c : Nat} {D : List Int} {i : Nat} (h : Rb w rb a n c D i) (q : Qt w w') : Rb w' rb a n c D i :=
  ⟨h.blk.late (q.below _), h.sl.qt q, h.ne, h.le, h.n1, h.byt, fun x hx => Nat.lt_of_lt_of_le (h.lt x hx) (q.below w.heap.size).size⟩
theorem Rb.later {w w' : World} {rb : Nat} {a : Option Addr} {n c : Nat} {D : List Int} {i : Nat} (h : Rb w rb a n c D i) (q : Below w.heap.size w w') : Rb w' rb a n c D i :=
  ⟨h.blk.late q, h.sl.mono q, h.ne, h.le, h.n1, h.byt, fun x hx => Nat.lt_of_lt_of_le (h.lt x hx) q.size⟩
theorem Rb.set {w : World} {rb : Nat} {a : Option Addr} {n c : Nat} {D : List Int} {i : Nat} (h : Rb w rb a n c D i) (j : Nat) (hj : j ≤ 8 * n) : Rb (w.setCell ⟨rb, 1, none⟩ (.int .i64 j)) rb a n c D j :=
  ⟨h.blk.set 1 _, h.sl.but ((But.refl rb w).set 1 _) h.ne, h.ne, hj, h.n1, h.byt, fun x hx => by have := h.lt x hx; simpa using this⟩
theorem left_any (rb : Nat) (a : Option Addr) (n c : Nat) (D : List Int) (i : Nat) (w : World) (h : Rb w rb a n c D i) :
    Calls Try.prog 83 #[.pointer (some ⟨rb, 0, none⟩)] w fun e w' => e = .returned (.int .i64 (8 * n - i : Nat)) ∧ Qt w w' := by
  have c0 : w.cell? ⟨rb, 0, none⟩ = some (.slice a n c) := h.blk.cell rfl; have c1 : w.cell? ⟨rb, 1, none⟩ = some (.int .i64 i) := h.blk.cell rfl; have hle := h.le; have hn := h.n1; clear h
  go_enter Try.func83, Try.ntmps83
  go_wp2
  go_quiet (fail)
  go_wp2
  go_ret
  exact ⟨ret_int (by omega), (Qt.refl _).step _⟩
theorem and7 (i : Nat) (h : i < 9223372036854775808) : bits .and .i64 (i : Int) 7 = ((i % 8 : Nat) : Int) := by
  rw [show (7 : Int) = ((7 : Nat) : Int) from rfl, and_i64 i 7 h (by decide), show (7 : Nat) = 2 ^ 3 - 1 from rfl, Nat.and_two_pow_sub_one_eq_mod]
set_option maxRecDepth 20000 in
set_option maxHeartbeats 1000000 in
theorem rtake_ok (rb : Nat) (a : Option Addr) (n c : Nat) (D : List Int) (i k : Nat) (w : World) (h : Rb w rb a n c D i) (hk : k ≤ 16) (hi : i + k ≤ 8 * n) :
    Calls Try.prog 142 #[.pointer (some ⟨rb, 0, none⟩), .int .i64 k] w fun e w' => e = .returned (.tuple #[.int .i64 (numA D i k), .bool true]) ∧ Rb w' rb a n c D (i + k) ∧ But rb w w' := by
  have hn := h.n1; have hL := left_any rb a n c D i w h; have d1 : decide ((k : Int) < 0) = false := by simp
  have d2 : decide ((16 : Int) < k) = false := by simp; omega
  have d3 : decide ((8 * n - i : Nat) < k) = false := by simp; omega
  obtain ⟨L, hLe⟩ : ∃ L : Nat, 8 * n - i = L := ⟨_, rfl⟩; rw [hLe] at hL d3; have h' := Lib.hid h; have hL' := Lib.hid hL; have hi' := Lib.hid hi; have hLe' := Lib.hid hLe; clear h hL hi hLe
  go_enter Try.func142, Try.ntmps142
  go_wp2_with fail
  refine (hL'.out).mono ?_; rintro e w1 ⟨rfl, hq⟩; have hR : Rb w1 rb a n c D i := h'.out.qt hq; have hb1 : But rb w w1 := (But.refl _ _).qt hq; clear hq; have hR' := Lib.hid hR; have hb1' := Lib.hid hb1; clear hR hb1
  go_wp2
  go_loopw [6, 24] (fun vv iv wr => ∃ j : Nat, j ≤ k ∧ iv = .int .i64 j ∧ vv = .int .i64 (numA D i j) ∧ Hid (Rb wr rb a n c D (i + j)) ∧ Hid (But rb w wr)) (fun _ iv _ => k - (intOf iv).toNat)
  case atStart => exact ⟨0, by omega, rfl, rfl, hR', hb1'⟩
  case round =>
    obtain ⟨j, hj, rfl, rfl, hr, hb⟩ := hrel
    by_cases hlt : j < k
    · have c0 := hr.out.blk.cell (i := 0) rfl
      have c1 := hr.out.blk.cell (i := 1) rfl; have q1 := hr.out.blk.frozen 1; have hij : i + j < 8 * n := by have := hi'.out; omega
      have hi2 : i + j ≤ 8000000 := by omega
      obtain ⟨q, hq⟩ : ∃ q, i + j = q := ⟨_, rfl⟩; rw [hq] at c1 hij hi2; obtain ⟨bb, of, rfl, hbb, f⟩ := hr.out.sl.at (show q / 8 < n by omega); have f0 := f (q / 8) _ (ints_get (by rw [hr.out.sl.ilen]; omega)); have h7 := and7 q (by omega); clear f
      go_wp2
      go_quiet (fail)
      go_wp2
      go_roundw
      case rel => exact ⟨j + 1, by omega, by go_num, by rw [← hq, numA_step hr.out.byt i j (by omega)], Lib.hid (by have := (hr.out.qt ⟨nq, rfl⟩).set (q + 1) (by omega); rw [show i + (j + 1) = q + 1 by omega]; exact this), Lib.hid ((hb.out.qt ⟨nq, rfl⟩).set 1 _)⟩
      case measure => simp [intOf]; omega
    · obtain rfl : j = k := by omega
      go_wp2
      go_ret2
      exact ⟨rfl, hr.out, hb.out⟩
end Go.Proofs.Ytpjopeojeglogaa
