import Derived.Test.YtheelhepelbgcaaReg6k
/- Chapter 18: which values may be. -/
namespace Go.Proofs.Ytheelhepelbgcaa
open Go.RowKit Tt
set_option linter.unusedVariables false

def textB : List Int → Bool
  | [] => true
  | [x] => x == 0
  | x :: y :: r => (x != 0) && textB (y :: r)
theorem textB_iff : ∀ l : List Int, textB l = true ↔ ∀ i, i < l.length → (l.getD i 0 = 0 ↔ i + 1 = l.length)
  | [] => by simp [textB]
  | [x] => by
    simp only [textB, beq_iff_eq, List.length_cons, List.length_nil]
    refine ⟨fun h i hi => ?_, fun h => ?_⟩
    · obtain rfl : i = 0 := by omega
      simp [h]
    · have := h 0 (by omega)
      simpa using this
  | x :: y :: r => by
    have ih := textB_iff (y :: r)
    simp only [textB, Bool.and_eq_true, bne_iff_ne, ne_eq]
    rw [ih]
    refine ⟨fun ⟨h0, h⟩ i hi => ?_, fun h => ⟨?_, fun i hi => ?_⟩⟩
    · cases i with
      | zero => simp [h0]
      | succ i =>
        rw [List.getD_cons_succ, h i (by simpa using hi)]
        simp
    · have := h 0 (by simp)
      simpa using this
    · have := h (i + 1) (by simpa using hi)
      rw [List.getD_cons_succ] at this
      rw [this]
      simp
theorem byte_zero {x : Int} (h : 0 ≤ x ∧ x < 256) : (UInt8.ofNat x.toNat == (0 : Int).toNat.toUInt8) = (x == 0) := by
  rw [Bool.eq_iff_iff, beq_iff_eq, beq_iff_eq]
  constructor
  · intro h2
    have h3 := congrArg UInt8.toNat h2
    simp [Nat.mod_eq_of_lt (show x.toNat < 256 by omega)] at h3
    omega
  · rintro rfl; rfl
theorem textB_idx : ∀ l : List Int, Byt l → (Lib.indexByte (Lib.bytesOf l) (0 : Int).toNat.toUInt8 = (l.length : Int) - 1 ↔ textB l = true)
  | [], _ => by simp [Lib.bytesOf, Lib.indexByte, textB]
  | [x], h => by
    have hx := byte_zero (h x (by simp))
    simp only [Lib.bytesOf, List.map_cons, List.map_nil, Lib.indexByte, textB, hx]
    cases hc : x == 0 <;> simp
  | x :: y :: r, h => by
    have hx := byte_zero (h x (by simp))
    have ih := textB_idx (y :: r) (fun z hz => h z (List.mem_cons_of_mem _ hz))
    have hg := Lib.indexByte_ge (Lib.bytesOf (y :: r)) (0 : Int).toNat.toUInt8
    have e : Lib.indexByte (Lib.bytesOf (x :: y :: r)) (0 : Int).toNat.toUInt8 = if (x == 0) = true then 0 else if Lib.indexByte (Lib.bytesOf (y :: r)) (0 : Int).toNat.toUInt8 == -1 then -1 else Lib.indexByte (Lib.bytesOf (y :: r)) (0 : Int).toNat.toUInt8 + 1 := by
      rw [← hx]; rfl
    rw [e]
    simp only [textB, Bool.and_eq_true, bne_iff_ne, ne_eq, ← ih]
    generalize Lib.indexByte (Lib.bytesOf (y :: r)) (0 : Int).toNat.toUInt8 = k at *
    have hl : ((x :: y :: r).length : Int) = ((y :: r).length : Int) + 1 := by simp
    have hl2 : (1 : Int) ≤ ((y :: r).length : Int) := by simp; omega
    rw [hl]
    generalize ((y :: r).length : Int) = n at *
    by_cases h0 : x = 0
    · simp [h0]; omega
    · by_cases h1 : k = -1
      · simp [h0, h1]; omega
      · simp [h0, h1]; omega

/-- whether a value may be -/
def mayS (ty cnt : Int) (d : List Int) : Bool :=
  decide ((kindS ty).1 ≠ 0) && decide (1 ≤ cnt) && decide (cnt ≤ 65536) && decide ((d.length : Int) = cnt * (kindS ty).1) && (ty != 2 || textB d)
theorem may_no {ty cnt : Int} {d : List Int} (h : (kindS ty).1 = 0 ∨ cnt < 1 ∨ 65536 < cnt ∨ (d.length : Int) ≠ cnt * (kindS ty).1) : mayS ty cnt d = false := by
  unfold mayS
  rcases h with h | h | h | h
  · simp [h]
  · rw [decide_eq_false (show ¬ 1 ≤ cnt by omega)]; simp
  · rw [decide_eq_false (show ¬ cnt ≤ 65536 by omega)]; simp
  · rw [decide_eq_false h]; simp
theorem may_else {ty cnt : Int} {d : List Int} (h1 : (kindS ty).1 ≠ 0) (h2 : ¬ cnt < 1) (h3 : ¬ 65536 < cnt) (h4 : (d.length : Int) = cnt * (kindS ty).1) : mayS ty cnt d = (ty != 2 || textB d) := by
  unfold mayS
  rw [decide_eq_true h1, decide_eq_true (show 1 ≤ cnt by omega), decide_eq_true (show cnt ≤ 65536 by omega), decide_eq_true h4]
  simp

set_option maxHeartbeats 4000000 in
theorem may_any (ty cnt : Int) (a : Option Addr) (n c : Nat) (d : List Int) (w : World) (hs : Sl w a n c 1 (ints .u8 d)) (bd : Byt d) :
    Calls Try.prog 82 #[.agg #[.int .i64 ty, .int .i64 cnt, .slice a n c]] w fun e w' => e = .returned (.bool (mayS ty cnt d)) ∧ Below w.heap.size w w' := by
  have hl := hs.ilen
  obtain ⟨m, hm⟩ : ∃ m, mayS ty cnt d = m := ⟨_, rfl⟩
  rw [hm]
  have Hm := Lib.hid hm
  have Hs := Lib.hid hs
  have Hl := Lib.hid hl
  have Bd := Lib.hid bd
  have hsz := kindS_size ty
  have hmx := hs.max
  have hle := hs.le
  clear hm hs hl bd
  obtain ⟨sz, pt, is, hk⟩ : ∃ s p i, kindS ty = (s, p, i) := ⟨_, _, _, rfl⟩
  rw [hk] at hsz
  simp only at hsz
  have Hk := Lib.hid hk
  clear hk
  have hkc := fun W => kind_any ty W
  rw [Hk.out] at hkc
  simp only at hkc
  go_enter Try.func82, Try.ntmps82
  go_wp2_with fail
  refine (hkc _).mono ?_
  rintro e w1 ⟨rfl, hb⟩
  have hb1 : Below w.heap.size w w1 := ((Below.refl w.heap.size w).alloc (Nat.le_refl _) _).trans (hb.mono (by simp))
  obtain ⟨g, hg⟩ : ∃ g, g = w.heap.size := ⟨_, rfl⟩
  have hblk : w1.heap[g]? = some (.cells #[.int .i64 ty, .int .i64 cnt, .slice a n c] 54) := by rw [hg]; exact (hb.block w.heap.size (by simp)).trans (heap_new w _)
  have hlt : g < w1.heap.size := (Array.getElem?_eq_some_iff.1 hblk).1
  have c0 : w1.cell? ⟨g, 0, none⟩ = some (.int .i64 ty) := by unfold World.cell?; rw [hblk]; rfl
  have c1 : w1.cell? ⟨g, 1, none⟩ = some (.int .i64 cnt) := by unfold World.cell?; rw [hblk]; rfl
  have c2 : w1.cell? ⟨g, 2, none⟩ = some (.slice a n c) := by unfold World.cell?; rw [hblk]; rfl
  have Hs1 := Lib.hid (Hs.out.mono hb1)
  rw [← hg]
  have HG := Lib.hid hg
  have HB := Lib.hid hb1
  clear hb hb1 hg hblk hkc
  by_cases t1 : sz = 0
  · subst t1
    obtain rfl : m = false := by rw [← Hm.out]; exact may_no (.inl (by rw [Hk.out]))
    go_wp2
    go_ret
    exact ⟨rfl, HB.out.alloc HB.out.size _⟩
  by_cases t2 : cnt < 1
  · obtain rfl : m = false := by rw [← Hm.out]; exact may_no (.inr (.inl t2))
    go_wp2
    go_ret
    exact ⟨rfl, HB.out.alloc HB.out.size _⟩
  by_cases t3 : 65536 < cnt
  · obtain rfl : m = false := by rw [← Hm.out]; exact may_no (.inr (.inr (.inl t3)))
    go_wp2
    go_ret
    exact ⟨rfl, HB.out.alloc HB.out.size _⟩
  have hw : IntKind.i64.wrap (cnt * sz) = cnt * sz := by
    have : 0 ≤ cnt * sz := Int.mul_nonneg (by omega) (by omega)
    have : cnt * sz ≤ 65536 * 8 := Int.mul_le_mul (by omega) (by omega) (by omega) (by omega)
    rw [IntKind.wrap_i64]; omega
  have f1 : (sz == 0) = false := by simp [t1]
  by_cases t4 : (n : Int) = cnt * sz
  · have hmm := may_else (ty := ty) (cnt := cnt) (d := d) (by rw [Hk.out]; exact t1) t2 t3 (by rw [Hl.out, Hk.out]; exact t4)
    rw [Hm.out] at hmm
    have Hmm := Lib.hid hmm
    have f4 : ((n : Int) != cnt * sz) = false := by simp [t4]
    clear hmm t4
    by_cases t5 : ty = 2
    · subst t5
      have hti := (textB_idx d Bd.out)
      rw [Hl.out] at hti
      have hi := fun j => (indexbyte_any a n c d 0 ((w1.alloc (.cells #[.int .i64 sz, .int .i64 pt, .int .i64 is] 131)).drewN j) (sl_alloc Hs1.out _).drewN).mono (fun e w' (h : _ ∧ _) => (⟨h.1, by rw [← h.2]; exact Qt.refl _⟩ : _ ∧ Qt _ w'))
      obtain ⟨k, hkk⟩ : ∃ k, Lib.indexByte (Lib.bytesOf d) (0 : Int).toNat.toUInt8 = k := ⟨_, rfl⟩
      rw [hkk] at hti hi
      have hk2 := Lib.indexByte_ge (Lib.bytesOf d) (0 : Int).toNat.toUInt8
      rw [hkk] at hk2
      have hmk : m = (k == (n : Int) - 1) := by
        rw [Hmm.out, Bool.eq_iff_iff, beq_iff_eq, hti]
        simp
      have Hmk := Lib.hid hmk
      have Hi := Lib.hid hi
      clear hti hkk hi hmk
      go_wp2_with fail
      go_quiet ((go_at_call 94; exact Calls.quiet_of (Hi.out _)))
      go_wp2
      go_ret
      exact ⟨ret_bool Hmk.out.symm, (HB.out.alloc HB.out.size _).trans (Qt.below ⟨_, rfl⟩ _)⟩
    · have f5 : (ty == 2) = false := by simp [t5]
      have f6 : (ty != 2) = true := by simp [t5]
      have hmm : m = true := by rw [Hmm.out, f6]; rfl
      subst hmm
      go_wp2_with fail
      go_quiet (fail)
      go_wp2
      go_ret
      exact ⟨rfl, (HB.out.alloc HB.out.size _).trans (Qt.below ⟨_, rfl⟩ _)⟩
  · obtain rfl : m = false := by rw [← Hm.out]; exact may_no (.inr (.inr (.inr (by rw [Hl.out, Hk.out]; exact t4))))
    have f4 : ((n : Int) != cnt * sz) = true := by simp [t4]
    go_wp2
    go_ret
    exact ⟨rfl, HB.out.alloc HB.out.size _⟩
end Go.Proofs.Ytheelhepelbgcaa
