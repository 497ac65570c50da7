/- Chapter 4: a symbol taken: the program. | Chapter 11: the size of a number, its bits: the program. -/
import Derived.Test.YtpjopeojeglogaaCs11
import Derived.Test.YtpjopeojeglogaaCs06
namespace Go.Proofs.Ytpjopeojeglogaa
open Go.RowKit Tt
set_option linter.unusedVariables false
set_option linter.unusedSimpArgs false

def symAt (c s : List Int) (X : Int × Nat) : Option Int := ((List.range s.length).find? fun i => (codesS c).getD i (0, 0) == X).map fun i => s.getD i 0
def symR (q : Option Int) : Value := .tuple #[.int .i64 (q.getD 0), .bool q.isSome]
theorem symAt_some {c s : List Int} {X : Int × Nat} {y : Int} (h : symAt c s X = some y) : ∃ i, i < s.length ∧ (codesS c).getD i (0, 0) = X ∧ s.getD i 0 = y := by
  unfold symAt at h; obtain ⟨i, hf, rfl⟩ := Option.map_eq_some_iff.1 h; have := List.find?_some hf; exact ⟨i, List.mem_range.1 (List.mem_of_find?_eq_some hf), by simpa using this, rfl⟩
theorem symAt_none {c s : List Int} {X : Int × Nat} (h : symAt c s X = none) : ∀ i, i < s.length → (codesS c).getD i (0, 0) ≠ X := fun i hi he => by
  unfold symAt at h; rw [Option.map_eq_none_iff, List.find?_eq_none] at h; exact h i (List.mem_range.2 hi) (by simpa using he)
set_option maxRecDepth 20000 in
theorem sym_run {c s : List Int} {W : World} {b : Nat} (hm : hMay c s = true) (h : AM Try.prog 102 W b (entS c s s.length)) {X : Int × Nat} (h1 : (Lit.int .i64 X.1).wf = true) (h2 : (Lit.int .i64 X.2).wf = true) :
    (Instr.lookup 197 (.map (some b)) (bitA X) true).run Try.prog W = .ok (symR (symAt c s X)) W := by
  obtain ⟨kl, hk⟩ := key_bit h1 h2
  rcases h.look bitK Try.underlying197 hk (zeroI W) with ⟨g1, g2⟩ | ⟨v, g1, g2⟩
  · have e : symAt c s X = none := by
      unfold symAt; rw [List.find?_eq_none.2 fun i hi => ?_]
      · rfl
      · intro he
        have he : (codesS c).getD i (0, 0) = X := by simpa using he
        exact g1 (bitA ((codesS c).getD i (0, 0)), .int .i64 (s.getD i 0)) (List.mem_map.2 ⟨i, hi, rfl⟩) (by show bitA _ = _; rw [he])
    rw [g2, e]
    rfl
  · obtain ⟨i, hi, he⟩ := List.mem_map.1 g1
    injection he with e1 e2; have e1 := bitA_inj e1; have hi := List.mem_range.1 hi
    have e : symAt c s X = some (s.getD i 0) := by
      unfold symAt
      have : (List.range s.length).find? (fun j => (codesS c).getD j (0, 0) == X) = some i := by
        rw [List.find?_range_eq_some]; refine ⟨by simpa using e1, List.mem_range.2 hi, fun j hj => ?_⟩
        have hne : (codesS c).getD j (0, 0) ≠ X := fun e => by
          have ha := ahead_ne (CntOk.of hm).1 hj (by rw [codes_len hm]; exact hi); rw [e, e1] at ha; have := ha.2; rw [Nat.sub_self, Int.pow_zero, Int.mul_one] at this
          omega
        simpa using hne
      rw [this]
      rfl
    rw [g2, e, ← e2]
    rfl
theorem bits_left {D : List Int} {n i : Nat} (hn : D.length = n) : ((bitsS D).drop i).length = 8 * n - i := by rw [List.length_drop, bitsS_len, hn]
theorem but_rowH {b : Nat} (w : World) (cs : Array Value) : But b w (w.setRow b cs) :=
  ⟨rfl, rfl, rfl, by rw [show (w.setRow b cs).heap.size = w.heap.size by simp [World.setRow]]; exact Nat.le_refl _, fun k hk hne => setRow_other w b k cs hne⟩
theorem Rb.but {w w' : World} {rb g : Nat} {a : Option Addr} {n c : Nat} {D : List Int} {i : Nat} (h : Rb w rb a n c D i) (hb : But g w w') (h1 : rb ≠ g) (h2 : ∀ x, a = some x → x.block ≠ g) : Rb w' rb a n c D i :=
  ⟨h.blk.but hb h1, h.sl.but hb h2, h.ne, h.le, h.n1, h.byt, fun x hx => Nat.lt_of_lt_of_le (h.lt x hx) hb.size⟩
set_option maxRecDepth 20000 in
set_option maxHeartbeats 2000000 in
theorem ttake_any (tb rb : Nat) (c s : List Int) (a : Option Addr) (n cc : Nat) (D : List Int) (i : Nat) (w : World) (h : TbM w tb c s) (hr : Rb w rb a n cc D i) :
    Calls Try.prog 80 #[.pointer (some ⟨tb, 0, none⟩), .pointer (some ⟨rb, 0, none⟩)] w fun e w' =>
      ((nextS c s ((bitsS D).drop i) = none ∧ e = .returned (.tuple #[.int .i64 0, .bool false]) ∧ Rb w' rb a n cc D i) ∨ ∃ x k, nextS c s ((bitsS D).drop i) = some (x, k) ∧ e = .returned (.tuple #[.int .i64 x, .bool true]) ∧ Rb w' rb a n cc D (i + k)) ∧ But rb w w' := by
  obtain ⟨b1, b2, hb, _, ha⟩ := h.ex; have hmay := h.may; have hD : D.length = n := hr.sl.ilen; have hle := hr.le; have hn1 := hr.n1; have r0 := hr.blk.cell (i := 0) rfl; have r1 := hr.blk.cell (i := 1) rfl; have R1 := Blk.new w 203 #[.slice a n cc, .int .i64 i]; have l1 := (Below.refl w.heap.size w).alloc (Nat.le_refl _) (.cells #[.slice a n cc, .int .i64 i] 203); have R2 := Blk.new (w.alloc (.cells #[.slice a n cc, .int .i64 i] 203)) 102 #[.int .i64 0, .int .i64 0]; have e1 : (w.alloc (.cells #[.slice a n cc, .int .i64 i] 203)).heap.size = w.heap.size + 1 := by simp
  have l2 := (Below.refl (w.alloc (.cells #[.slice a n cc, .int .i64 i] 203)).heap.size (w.alloc (.cells #[.slice a n cc, .int .i64 i] 203))).alloc (Nat.le_refl _) (.cells #[.int .i64 0, .int .i64 0] 102); have l3 := l1.trans (l2.mono l1.size); have R3 := R1.late l2; rw [e1] at R2; obtain ⟨W2, hW2⟩ : ∃ W, (w.alloc (.cells #[.slice a n cc, .int .i64 i] 203)).alloc (.cells #[.int .i64 0, .int .i64 0] 102) = W := ⟨_, rfl⟩; rw [hW2] at R2 l3 R3; have P3 : Rb W2 w.heap.size a n cc D i := ⟨R3, hr.sl.mono l3, fun x hx => Nat.ne_of_lt (hr.lt x hx), hle, hn1, hr.byt, fun x hx => Nat.lt_of_lt_of_le (hr.lt x hx) l3.size⟩; clear e1 l1 l2 R1; have hb' := Lib.hid hb; have ha' := Lib.hid ha; have hmay' := Lib.hid hmay; have hD' := Lib.hid hD; have hle' := Lib.hid hle; have hr' := Lib.hid hr; have R2' := Lib.hid R2; have l3' := Lib.hid l3; have R3' := Lib.hid R3; have hW2' := Lib.hid hW2; have P3' := Lib.hid P3; clear hb ha hmay hD hle hr R2 l3 R3 hW2 P3
  go_enter Try.func80, Try.ntmps80
  go_upto_region 5 with fail
  obtain ⟨g6, hg6⟩ : ∃ x, w.heap.size = x := ⟨_, rfl⟩; have hg6b := Lib.hid hg6; have R2b := R2'.out; have P3b := P3'.out; have l3b := l3'.out; rw [hg6] at R2b P3b l3b
  try rw [hW2'.out]
  try rw [hg6]
  clear hg6 R2' P3' l3' R3'; have R2b' := Lib.hid R2b; have P3b' := Lib.hid P3b; have l3b' := Lib.hid l3b; clear R2b P3b l3b
  go_loopw [8] (fun _ wr => ∃ (k : Nat) (V : Int), k ≤ 16 ∧ i + k ≤ 8 * n ∧ Hid (V = numL (((bitsS D).drop i).take k)) ∧ Hid (Blk wr (g6 + 1) 102 #[.int .i64 V, .int .i64 k]) ∧ Hid (Rb wr g6 a n cc D (i + k)) ∧ Hid (Below g6 w wr) ∧ Hid (∀ m, 1 ≤ m → m ≤ k → ∀ j, j < s.length → (codesS c).getD j (0, 0) ≠ (numL (((bitsS D).drop i).take m), m))) (fun _ wr => 16 - numAt wr ⟨g6 + 1, 1, none⟩)
  case atStart => exact ⟨0, 0, by omega, hle'.out, Lib.hid rfl, R2b', P3b', l3b', Lib.hid (fun m h1 h2 => by omega)⟩
  case round =>
    obtain ⟨k, V, hk, hik, hV, hB, hR, hbel, hno⟩ := hrel; have hbl := bits_left (i := i) hD'.out; have hbit := (bitsS_bit D).drop i; have hbW : Below w.heap.size w wr := by rw [hg6b.out]; exact hbel.out
    have q1 : wr.cell? ⟨g6 + 1, 1, none⟩ = some (.int .i64 k) := hB.out.cell rfl; have hbl' := Lib.hid hbl; have hbit' := Lib.hid hbit; have hbW' := Lib.hid hbW; clear hbl hbit hbW
    by_cases hk16 : k < 16
    · by_cases h8 : i + k < 8 * n
      · have hT := rtake_ok g6 a n cc D (i + k) 1 wr hR.out (by decide) (by omega)
        rw [show ((1 : Nat) : Int) = 1 from rfl] at hT; obtain ⟨bt, hbt⟩ : ∃ x, numA D (i + k) 1 = x := ⟨_, rfl⟩; have hbb := numA_bound D (i + k) 1; have hbe : numA D (i + k) 1 = Tt.bitA D (i + k) := by rw [numA, numA]; simp
        rw [hbt] at hT hbb hbe; have hVb := numL_bound _ (hbit'.out.take k); rw [← hV.out, List.length_take, Nat.min_eq_left (by rw [hbl'.out]; omega)] at hVb; have hp16 : (2 : Int) ^ k ≤ 2 ^ 16 := by exact_mod_cast Nat.pow_le_pow_right (by decide : 0 < 2) (by omega)
        obtain ⟨hV0, hV1⟩ : 0 ≤ V ∧ V < 65536 := by omega
        have hor := or_bit hV0 (by omega) hbb.1 (by omega)
        have hnum : V * 2 + bt = numL (((bitsS D).drop i).take (k + 1)) := by
          have e : ((bitsS D).drop i).take (k + 1) = ((bitsS D).drop i).take k ++ [Tt.bitA D (i + k)] := by
            rw [List.take_add_one, List.getElem?_drop, bitsS_get D (i + k) (by rw [hD'.out]; omega)]
            rfl
          rw [e, numL_app, ← hV.out, ← hbe]
          show _ = V * 2 ^ 1 + (2 * 0 + bt)
          omega
        obtain ⟨V2, hV2⟩ : ∃ x, V * 2 + bt = x := ⟨_, rfl⟩; rw [hV2] at hor hnum; have hV2b : 0 ≤ V2 ∧ V2 < 131072 := by omega
        clear hVb hp16; have hT' := Lib.hid hT; have hbt' := Lib.hid hbt; have hbe' := Lib.hid hbe; have hnum' := Lib.hid hnum; have hV2' := Lib.hid hV2; have hV2b' := Lib.hid hV2b; have hbb' := Lib.hid hbb; clear hT hbt hbe hnum hV2 hV2b hbb
        go_upto_region 6 with fail
        go_wp2_with fail
        refine hT'.out.mono ?_; rintro e w1 ⟨rfl, hR1, hb1⟩; have hB1 := hB.out.but hb1 (by omega); have hd1 : Below g6 w w1 := hbel.out.trans (hb1.below (Nat.le_refl _) (by have h1 := hbW'.out.size; have h2 := hg6b.out; omega)); have x0 : w1.cell? ⟨g6 + 1, 0, none⟩ = some (.int .i64 V) := hB1.cell rfl; have x1 : w1.cell? ⟨g6 + 1, 1, none⟩ = some (.int .i64 k) := hB1.cell rfl; clear q1; have hR1' := Lib.hid hR1; have hb1' := Lib.hid hb1; have hB1' := Lib.hid hB1; have hd1' := Lib.hid hd1; clear hR1 hb1 hB1 hd1
        go_upto_region 10 with (refine wpList_store_row rfl 102 (.tmp 7) (.tmp 38) rfl (g6 + 1) #[.int .i64 V2, .int .i64 ((k : Int) + 1)] rfl rfl 102 _ hB1'.out (by kernel_rfl) rfl (by kernel_rfl) ?_)
        have hB2 : Blk (w1.setRow (g6 + 1) #[.int .i64 V2, .int .i64 ((k : Int) + 1)]) (g6 + 1) 102 #[.int .i64 V2, .int .i64 ((k : Int) + 1)] := Blk.rowH hB1'.out _; have hbt2 : But (g6 + 1) w1 (w1.setRow (g6 + 1) #[.int .i64 V2, .int .i64 ((k : Int) + 1)]) := but_rowH w1 _; have hR2 := hR1'.out.but hbt2 (by omega) (by have h1 := hg6b.out; have h2 := hR1'.out; intro x hx e; have := hr'.out.lt x hx; omega); have hd2 := rowBelow hd1'.out (show g6 ≤ g6 + 1 by omega) #[.int .i64 V2, .int .i64 ((k : Int) + 1)]; obtain ⟨w2, hw2⟩ : ∃ W, w1.setRow (g6 + 1) #[.int .i64 V2, .int .i64 ((k : Int) + 1)] = W := ⟨_, rfl⟩; rw [hw2] at hB2 hR2 hd2 ⊢; obtain ⟨Ty, ff, hnn, hbel2, hsurj⟩ := later_worlds w2; have hs2 : w.heap.size ≤ w2.heap.size := hd2.size; have hdW : Below w.heap.size w w2 := by rw [hg6b.out]; exact hd2
        have HD := Lib.hid ((Below.refl w2.heap.size w2).drew); have HS := Lib.hid (hsurj w2.drew HD.out); have hall : ∀ s, Below w.heap.size w (ff s) := fun s => hdW.trans ((hbel2 s).mono hdW.size); have y0 : ∀ s, (ff s).cell? ⟨tb, 1, none⟩ = some (.map (some b2)) := fun s => (hb'.out.late (hall s)).cell rfl; have y1 : ∀ s, (ff s).cell? ⟨g6 + 1, 0, none⟩ = some (.int .i64 V2) := fun s => (hB2.late (hbel2 s)).cell rfl; have y2 : ∀ s, (ff s).cell? ⟨g6 + 1, 1, none⟩ = some (.int .i64 ((k : Int) + 1)) := fun s => (hB2.late (hbel2 s)).cell rfl; obtain ⟨q, hq⟩ : ∃ q, symAt c s (V2, k + 1) = q := ⟨_, rfl⟩
        have y3 : ∀ x, (Instr.lookup 197 (.map (some b2)) (.agg #[.int .i64 V2, .int .i64 ((k : Int) + 1)]) true).run Try.prog (ff x) = .ok (symR q) (ff x) := fun x => by
          rw [← hq]; exact sym_run hmay'.out (ha'.out.late (hall x)) (X := (V2, k + 1)) (wf_of (by have := hV2b'.out; show _ ≤ V2; omega) (by have := hV2b'.out; show V2 ≤ _; omega)) (wf_of (by show _ ≤ ((k + 1 : Nat) : Int); omega) (by show ((k + 1 : Nat) : Int) ≤ _; omega))
        have hqn : q = none → ∀ m, 1 ≤ m → m ≤ k + 1 → ∀ j, j < s.length → (codesS c).getD j (0, 0) ≠ (numL (((bitsS D).drop i).take m), m) := fun e m h1 h2 j hj => by
          rcases Nat.lt_or_ge m (k + 1) with h3 | h3
          · exact hno.out m h1 (by omega) j hj
          · obtain rfl : m = k + 1 := by omega
            rw [← hnum'.out]; exact symAt_none (hq.trans e) j hj
        have hqs : ∀ y, q = some y → nextS c s ((bitsS D).drop i) = some (y, k + 1) := fun y e => by
          obtain ⟨j, hj, h1, h2⟩ := symAt_some (hq.trans e); rw [← h2]; exact nextS_look hmay'.out hbit'.out hj (by rw [hbl'.out]; omega) (by rw [h1, hnum'.out])
        unfold symR at y3; clear hq x0 x1; have hB2' := Lib.hid hB2; have hbt2' := Lib.hid hbt2; have hR2' := Lib.hid hR2; have hd2' := Lib.hid hd2; have hdW' := Lib.hid hdW; have hw2' := Lib.hid hw2; have hbel2' := Lib.hid hbel2; have hsurj' := Lib.hid hsurj; have hall' := Lib.hid hall; have hqn' := Lib.hid hqn; have hqs' := Lib.hid hqs; have hs2' := Lib.hid hs2; clear hB2 hbt2 hR2 hd2 hdW hw2 hbel2 hsurj hall hqn hqs hs2; refine wp_quiet_in ff (by kernel_rfl) (by kernel_rfl) HS.out ?_; simp only [Act.put]
        iterate 11 (go_big_quiet_step (fail))
        refine wpQuiet_nil ?_; intro x; have hbx := hbel2'.out x; have hB3 := hB2'.out.late hbx; have hR3 := hR2'.out.later hbx; have hd3 := hall'.out x
        generalize ff x = wb at *
        clear y0 y1 y2 y3 HS HD hbx hbel2' hsurj' hall'
        cases q with
        | none =>
          have hq2 := hqn'.out rfl; have hd4 : Below g6 w wb := by rw [← hg6b.out]; exact hd3
          clear hqn' hqs'; have hB3' := Lib.hid hB3; have hR3' := Lib.hid hR3; have hd3' := Lib.hid hd3; have hq2' := Lib.hid hq2; have hd4' := Lib.hid hd4; clear hB3 hR3 hd3 hq2 hd4
          go_wp2_with fail
          go_roundw
          case rel => exact ⟨k + 1, V2, by omega, by omega, hnum', hB3', hR3', hd4', hq2'⟩
          case measure =>
            rw [numAt_of (hB3'.out.cell (i := 1) rfl), numAt_of (hB.out.cell (i := 1) rfl)]
            simp
            omega
        | some sy =>
          have hq2 := hqs'.out sy rfl; clear hqn' hqs'; have z0 : wb.cell? ⟨g6, 0, none⟩ = some (.slice a n cc) := hR3.blk.cell rfl; have z1 : wb.cell? ⟨g6, 1, none⟩ = some (.int .i64 (i + k + 1 : Nat)) := hR3.blk.cell rfl; have hr4 := hr'.out.later hd3; have hB4 := hr4.blk; have hB3' := Lib.hid hB3; have hR3' := Lib.hid hR3; have hd3' := Lib.hid hd3; have hq2' := Lib.hid hq2; have hr4' := Lib.hid hr4; have hB4' := Lib.hid hB4; clear hB3 hR3 hd3 hq2 hr4 hB4
          go_wp2_with (refine wpList_store_row rfl 203 (.tmp 51) (.tmp 50) rfl rb #[.slice a n cc, .int .i64 (i + k + 1 : Nat)] rfl rfl 203 _ hB4'.out (by kernel_rfl) rfl (by kernel_rfl) ?_)
          go_ret2
          have hbt4 : But rb wb (wb.setRow rb #[.slice a n cc, .int .i64 (i + k + 1 : Nat)]) := but_rowH wb _; refine ⟨.inr ⟨sy, k + 1, hq2'.out, rfl, ⟨Blk.rowH hB4'.out _, hr4'.out.sl.but hbt4 hr'.out.ne, hr'.out.ne, by omega, hr'.out.n1, hr'.out.byt, fun x hx => Nat.lt_of_lt_of_le (hr4'.out.lt x hx) hbt4.size⟩⟩, (But.of_below hd3'.out).trans hbt4⟩
      · have hT := rtake_no g6 a n cc D (i + k) 1 wr hR.out (by decide) (by omega)
        rw [show ((1 : Nat) : Int) = 1 from rfl] at hT; have hnx : nextS c s ((bitsS D).drop i) = none := nextS_none hmay'.out hbit'.out fun m h1 _ h3 j hj => hno.out m h1 (by rw [hbl'.out] at h3; omega) j hj; have hT' := Lib.hid hT; have hnx' := Lib.hid hnx; clear hT hnx
        go_wp2_with fail
        refine hT'.out.mono ?_; rintro e w1 ⟨rfl, hq1⟩; have hq1' := Lib.hid hq1; clear hq1
        go_wp2
        go_ret2
        exact ⟨.inl ⟨hnx'.out, rfl, (hr'.out.later hbW'.out).qt hq1'.out⟩, (But.of_below hbW'.out).qt hq1'.out⟩
    · obtain rfl : k = 16 := by omega
      have hnx : nextS c s ((bitsS D).drop i) = none := nextS_none hmay'.out hbit'.out fun m h1 h2 _ j hj => hno.out m h1 h2 j hj; have hnx' := Lib.hid hnx; clear hnx
      go_wp2
      go_ret2
      exact ⟨.inl ⟨hnx'.out, rfl, hr'.out.later hbW'.out⟩, But.of_below hbW'.out⟩
end Go.Proofs.Ytpjopeojeglogaa

namespace Go.Proofs.Ytpjopeojeglogaa
open Go.RowKit Tt
set_option linter.unusedVariables false
set_option linter.unusedSimpArgs false

theorem lib_aux : ∀ (f x : Nat), x < 2 ^ f → Lib.bitLenAux f x = bitLen x
  | 0, x, h => by
    obtain rfl : x = 0 := by simpa using h
    rfl
  | f + 1, x, h => by
    unfold Lib.bitLenAux
    by_cases hx : x = 0
    · subst hx; rfl
    · rw [if_neg hx, lib_aux f (x / 2) (by rw [Nat.pow_succ] at h; omega)]
      refine Nat.le_antisymm ?_ ?_
      · have h1 := bitLen_lt x
        rcases Nat.eq_zero_or_pos (bitLen x) with e | e
        · exact absurd (bitLen_zero.1 e) hx
        · have h2 : x / 2 < 2 ^ (bitLen x - 1) := by
            rw [show bitLen x = bitLen x - 1 + 1 by omega, Nat.pow_succ] at h1
            omega
          have := bitLen_le.2 h2
          omega
      · refine bitLen_le.2 ?_
        have h1 := bitLen_lt (x / 2); rw [Nat.add_comm, Nat.pow_succ]
        omega
theorem lib_bitLen {n : Nat} (h : n < 2 ^ 64) : Lib.bitLen n = bitLen n := lib_aux 64 n h
theorem wf_bd {x : Int} (h : (Lit.int .i64 x).wf = true) : -9223372036854775808 ≤ x ∧ x ≤ 9223372036854775807 := by
  simp [Lit.wf, IntKind.min, IntKind.max, IntKind.signed, IntKind.bits] at h
  omega
set_option maxRecDepth 20000 in
set_option maxHeartbeats 1000000 in
theorem csize_any (v : Int) (w : World) (hv : (Lit.int .i64 v).wf = true) :
    Calls Try.prog 152 #[.int .i64 v] w fun e w' => e = .returned (.int .i64 (sizeS v)) ∧ Qt w w' := by
  have hb := wf_bd hv
  have hL : ∀ (n : Nat) (w : World), n < 2 ^ 64 → Calls Try.prog 181 #[.int .u64 n] w fun e w' => e = .returned (.int .i64 (bitLen n)) ∧ w' = w := fun n w h => by
    have := Try.bits_Len n w (by omega) (by omega); rw [Int.toNat_natCast, lib_bitLen h] at this; exact this
  obtain ⟨N, hN⟩ : ∃ N, v.natAbs = N := ⟨_, rfl⟩; have hN64 : N < 2 ^ 64 := by omega
  have hLN := fun w => hL N w hN64; have hs : sizeS v = if bitLen N ≤ 15 then (bitLen N : Int) else -1 := by unfold sizeS; rw [hN]
  obtain ⟨M, hM⟩ : ∃ M, bitLen N = M := ⟨_, rfl⟩; rw [hM] at hs; have hLN : ∀ w, Calls Try.prog 181 #[.int .u64 N] w fun e w' => e = .returned (.int .i64 M) ∧ w' = w := fun w => by rw [← hM]; exact hLN w
  have hc : v < 0 → IntKind.u64.wrap (wrap64 (-v)) = N := fun h => by
    rw [IntKind.wrap_u64]; unfold wrap64
    omega
  have hc2 : ¬ v < 0 → IntKind.u64.wrap v = N := fun h => by
    rw [IntKind.wrap_u64]
    omega
  rw [hs]; clear hs hL; have hLN' := Lib.hid hLN; have hN' := Lib.hid hN; have hM' := Lib.hid hM; have hN64' := Lib.hid hN64; have hb' := Lib.hid hb; clear hLN hN hM hN64 hb
  go_enter Try.func152, Try.ntmps152
  by_cases h15 : M ≤ 15
  · rw [if_pos h15]
    by_cases h0 : v < 0
    · have hc := hc h0
      clear hc2
      go_wp2_with fail
      refine (hLN'.out _).mono ?_; rintro e w1 ⟨rfl, rfl⟩
      go_wp2_with fail
      go_ret
      exact ⟨rfl, Qt.refl _⟩
    · have hc := hc2 h0
      clear hc2
      go_wp2_with fail
      refine (hLN'.out _).mono ?_; rintro e w1 ⟨rfl, rfl⟩
      go_wp2_with fail
      go_ret
      exact ⟨rfl, Qt.refl _⟩
  · rw [if_neg h15]
    by_cases h0 : v < 0
    · have hc := hc h0
      clear hc2
      go_wp2_with fail
      refine (hLN'.out _).mono ?_; rintro e w1 ⟨rfl, rfl⟩
      go_wp2_with fail
      go_ret
      exact ⟨rfl, Qt.refl _⟩
    · have hc := hc2 h0
      clear hc2
      go_wp2_with fail
      refine (hLN'.out _).mono ?_; rintro e w1 ⟨rfl, rfl⟩
      go_wp2_with fail
      go_ret
      exact ⟨rfl, Qt.refl _⟩
/-- a number's bits, if it has a size -/
def extraQ (v : Int) : Option (Int × Nat) := if bitLen v.natAbs ≤ 15 then some (extraV v, bitLen v.natAbs) else none
set_option maxRecDepth 20000 in
set_option maxHeartbeats 1000000 in
theorem cextra_any (v : Int) (w : World) (hv : (Lit.int .i64 v).wf = true) :
    Calls Try.prog 214 #[.int .i64 v] w fun e w' => e = .returned (codR (extraQ v)) ∧ Below w.heap.size w w' := by
  have hb := wf_bd hv; have hal := (Below.refl w.heap.size w).alloc (Nat.le_refl _) (.cells #[.int .i64 0, .int .i64 0] 102); have B1 := Blk.new w 102 #[.int .i64 0, .int .i64 0]; obtain ⟨W1, hW1⟩ : ∃ W, w.alloc (.cells #[.int .i64 0, .int .i64 0] 102) = W := ⟨_, rfl⟩; rw [hW1] at hal B1; have hS := csize_any v W1 hv; obtain ⟨M, hM⟩ : ∃ M, bitLen v.natAbs = M := ⟨_, rfl⟩; have hML := bitLen_lt v.natAbs; rw [hM] at hML; have hs : sizeS v = if M ≤ 15 then (M : Int) else -1 := by unfold sizeS; rw [hM]
  have hq : extraQ v = if M ≤ 15 then some (extraV v, M) else none := by unfold extraQ; rw [hM]
  rw [hs] at hS; rw [hq]; unfold codR bitA; clear hs hq; have hal' := Lib.hid hal; have B1' := Lib.hid B1; have hW1' := Lib.hid hW1; have hM' := Lib.hid hM; have hML' := Lib.hid hML; have hb' := Lib.hid hb; clear hal B1 hW1 hM hML hb
  by_cases h15 : M ≤ 15
  · rw [if_pos h15] at hS
    rw [if_pos h15]; simp only [Option.getD_some, Option.isSome_some]; obtain ⟨X, hX⟩ : ∃ X, extraV v = X := ⟨_, rfl⟩; rw [hX]; have hS' := Lib.hid hS; clear hS
    go_enter Try.func214, Try.ntmps214
    go_upto_region 1 with fail
    rw [hW1'.out]
    go_wp2_with fail
    refine hS'.out.mono ?_; rintro e w1 ⟨rfl, hq1⟩; have B2 := B1'.out.late (hq1.below _); have hd := hal'.out.trans ((hq1.below _).mono hal'.out.size); have hMp : (2 : Int) ^ M ≤ 2 ^ 15 := by exact_mod_cast Nat.pow_le_pow_right (by decide : 0 < 2) h15
    have hMq := pow_pos2 M; have hd1 : decide ((M : Int) < 0) = false := by simp
    have hXe : extraV v = if v < 0 then v + 2 ^ M - 1 else v := by unfold extraV; rw [hM'.out]
    have B2' := Lib.hid B2; have hd' := Lib.hid hd; have hX' := Lib.hid hX; have hq1' := Lib.hid hq1; clear B2 hd hX hq1
    by_cases h0 : v < 0
    · rw [if_pos h0] at hXe
      have hv2 : v + ((2 : Int) ^ M - 1) = X := by rw [← hX'.out, hXe]; omega
      have hML2 : ((v.natAbs : Nat) : Int) < 2 ^ M := by exact_mod_cast hML'.out
      have hw1 : wrap64 (2 ^ M) = 2 ^ M := by unfold wrap64; omega
      have hw2 : wrap64 (2 ^ M - 1) = 2 ^ M - 1 := by unfold wrap64; omega
      have hw3 : wrap64 X = X := by unfold wrap64; omega
      clear hXe hML2
      go_wp2_with (refine wpList_store_row rfl 102 (.tmp 2) (.tmp 19) rfl w.heap.size #[.int .i64 X, .int .i64 M] rfl rfl 102 _ B2'.out (by kernel_rfl) rfl (by kernel_rfl) ?_)
      refine bodyPost_ret (results_blk_tmp rfl _ _ w.heap.size 102 #[.int .i64 X, .int .i64 M] _ rfl (Blk.rowH B2'.out _) Try.underlying102 rfl (by kernel_rfl)) rfl ?_; exact ⟨rfl, rowBelow hd'.out (Nat.le_refl _) _⟩
    · rw [if_neg h0] at hXe
      obtain rfl : X = v := by rw [← hX'.out, hXe]
      clear hXe
      go_wp2_with (refine wpList_store_row rfl 102 (.tmp 2) (.tmp 19) rfl w.heap.size #[.int .i64 X, .int .i64 M] rfl rfl 102 _ B2'.out (by kernel_rfl) rfl (by kernel_rfl) ?_)
      refine bodyPost_ret (results_blk_tmp rfl _ _ w.heap.size 102 #[.int .i64 X, .int .i64 M] _ rfl (Blk.rowH B2'.out _) Try.underlying102 rfl (by kernel_rfl)) rfl ?_; exact ⟨rfl, rowBelow hd'.out (Nat.le_refl _) _⟩
  · rw [if_neg h15] at hS
    rw [if_neg h15]; simp only [Option.getD_none, Option.isSome_none]; have hS' := Lib.hid hS; clear hS
    go_enter Try.func214, Try.ntmps214
    go_upto_region 1 with fail
    rw [hW1'.out]
    go_wp2_with fail
    refine hS'.out.mono ?_; rintro e w1 ⟨rfl, hq1⟩; have B2 := B1'.out.late (hq1.below _); have hd := hal'.out.trans ((hq1.below _).mono hal'.out.size); have B2' := Lib.hid B2; have hd' := Lib.hid hd; have hq1' := Lib.hid hq1; clear B2 hd hq1
    go_wp2_with (refine wpList_store_row rfl 102 (.tmp 2) (.tmp 9) rfl w.heap.size #[.int .i64 0, .int .i64 0] rfl rfl 102 _ B2'.out (by kernel_rfl) rfl (by kernel_rfl) ?_)
    refine bodyPost_ret (results_blk_tmp rfl _ _ w.heap.size 102 #[.int .i64 0, .int .i64 0] _ rfl (Blk.rowH B2'.out _) Try.underlying102 rfl (by kernel_rfl)) rfl ?_; exact ⟨rfl, rowBelow hd'.out (Nat.le_refl _) _⟩
end Go.Proofs.Ytpjopeojeglogaa
