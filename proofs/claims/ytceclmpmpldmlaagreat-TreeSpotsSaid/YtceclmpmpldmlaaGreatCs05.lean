/-  |  |  | Small functions of chapters 1, 18, 19, 21: Room, Top, Size, Long, Inline, Outside, later, tag. -/
import Derived.Laws.Tables
import Derived.Test.YtceclmpmpldmlaaGreatCs04
import Derived.Test.YtceclmpmpldmlaaGreatCs02
namespace Go.Proofs.YtceclmpmpldmlaaGreat
open Go.RowKit Tt
set_option linter.unusedVariables false

def kindCells : Array Value := #[.int .i64 0, .int .i64 0, .int .i64 0, .int .i64 1, .int .i64 1, .int .i64 1, .int .i64 1, .int .i64 1, .int .i64 1, .int .i64 2, .int .i64 2, .int .i64 1, .int .i64 4, .int .i64 4, .int .i64 1, .int .i64 8, .int .i64 4, .int .i64 3, .int .i64 1, .int .i64 1, .int .i64 2, .int .i64 1, .int .i64 1, .int .i64 1, .int .i64 2, .int .i64 2, .int .i64 2, .int .i64 4, .int .i64 4, .int .i64 2, .int .i64 8, .int .i64 4, .int .i64 4, .int .i64 4, .int .i64 4, .int .i64 5, .int .i64 8, .int .i64 8, .int .i64 5]
theorem wpList_built {P : Program} {ops : Array Oper} {rest : List Oper} {o : Oper} {a : Act} {w : World} {Q : Exit → Act → World → Prop} (hg : o.guard = none) (t : TypeId) (parts : Array (Nat × Operand)) (ho : o.op = .build t parts) (cells : Array Value)
    (hf : P.built t (parts.map fun (i, x) => (i, a.eval x)).toList = some cells)
    (h : wpList P ops Q rest (a.put o.dst (.agg cells)) w) : wpList P ops Q (o :: rest) a w :=
  wpList_build hg t parts ho (by rw [hf]; rfl) (by rw [hf]; exact h)
theorem setRow_below {B : Nat} {w w' : World} (h : Below B w w') {g : Nat} (hg : B ≤ g) (cs : Array Value) : Below B w (w'.setRow g cs) :=
  ⟨h.os, h.tape, h.output, by rw [setRow_size]; exact h.size, fun k hk => by rw [setRow_other _ _ _ _ (by omega)]; exact h.block k hk⟩

set_option maxRecDepth 100000 in
set_option maxHeartbeats 1000000 in
theorem kinds_any (w : World) : Calls Tryz.prog 167 #[] w fun e w' => e = .returned (.agg kindCells) ∧ Below w.heap.size w w' := by
  have ki : (Tryz.prog.info? 231).map (·.size) = some kindCells.size := by kernel_rfl
  have ka : kindCells.all (·.oneCell') = true := by kernel_rfl
  go_enter Tryz.func167, Tryz.ntmps167
  go_wp2_with (first
    | (refine wpList_built rfl 231 _ rfl kindCells (by kernel_rfl) ?_)
    | (refine wpList_store_row rfl 231 (.tmp 0) (.tmp 13) rfl w.heap.size kindCells rfl rfl 231 _ (heap_new w _) ki rfl ka ?_))
  refine bodyPost_ret (results_cell_row rfl _ _ w.heap.size 231 kindCells (0, 0) _ rfl (setRow_heap _ _ _ _ _ _ (heap_new w _)) Tryz.underlying231 rfl ki) rfl ?_; exact ⟨rfl, setRow_below ((Below.refl _ _).alloc (Nat.le_refl _) _) (Nat.le_refl _) _⟩

theorem kind_at {n : Int} (h0 : 0 ≤ n) (h1 : n ≤ 12) (W : World) : (Instr.index 231 (.agg kindCells) (.int .i64 n)).run Tryz.prog W = .ok (.agg #[.int .i64 (kindS n).1, .int .i64 (kindS n).2.1, .int .i64 (kindS n).2.2]) W := by
  rcases (by omega : n = 0 ∨ n = 1 ∨ n = 2 ∨ n = 3 ∨ n = 4 ∨ n = 5 ∨ n = 6 ∨ n = 7 ∨ n = 8 ∨ n = 9 ∨ n = 10 ∨ n = 11 ∨ n = 12) with rfl | rfl | rfl | rfl | rfl | rfl | rfl | rfl | rfl | rfl | rfl | rfl | rfl
  all_goals kernel_rfl

set_option maxHeartbeats 1000000 in
theorem kind_any (n : Int) (w : World) : Calls Tryz.prog 116 #[.int .i64 n] w fun e w' => e = .returned (.agg #[.int .i64 (kindS n).1, .int .i64 (kindS n).2.1, .int .i64 (kindS n).2.2]) ∧ Below w.heap.size w w' := by
  by_cases h : n < 0 ∨ 12 < n
  · rw [kindS_out h]
    by_cases h0 : n < 0
    · go_enter Tryz.func116, Tryz.ntmps116
      go_wp2
      refine bodyPost_ret (results_cell_row rfl _ _ w.heap.size 185 #[.int .i64 0, .int .i64 0, .int .i64 0] (0, 0) _ rfl (heap_new w _) Tryz.underlying185 rfl (by kernel_rfl)) rfl ?_; exact ⟨rfl, (Below.refl _ _).alloc (Nat.le_refl _) _⟩
    · have h1 : 12 < n := by omega
      go_enter Tryz.func116, Tryz.ntmps116
      go_wp2
      refine bodyPost_ret (results_cell_row rfl _ _ w.heap.size 185 #[.int .i64 0, .int .i64 0, .int .i64 0] (0, 0) _ rfl (heap_new w _) Tryz.underlying185 rfl (by kernel_rfl)) rfl ?_; exact ⟨rfl, (Below.refl _ _).alloc (Nat.le_refl _) _⟩
  · have hidx := fun W => kind_at (n := n) (by omega) (by omega) W
    have h0 : ¬ n < 0 := by omega
    have h1 : ¬ 12 < n := by omega
    obtain ⟨s, p, i, hk⟩ : ∃ s p i, kindS n = (s, p, i) := ⟨_, _, _, rfl⟩; rw [hk] at hidx ⊢; simp only at hidx ⊢; clear h hk
    go_enter Tryz.func116, Tryz.ntmps116
    go_wp2_with fail
    refine (kinds_any _).mono ?_; rintro e w1 ⟨rfl, hb⟩; have hg : w1.heap[w.heap.size]? = _ := (hb.block w.heap.size (by simp)).trans (heap_new w _)
    generalize kindCells = kc at *
    have kall : (#[.int .i64 s, .int .i64 p, .int .i64 i] : Array Value).all (·.oneCell') = true := by simp [Value.oneCell']
    have kinf : (Tryz.prog.info? 185).map (·.size) = some (#[.int .i64 s, .int .i64 p, .int .i64 i] : Array Value).size := by kernel_rfl
    have Kall := Lib.hid kall; have Kinf := Lib.hid kinf; have Hg := Lib.hid hg; clear kall kinf hg
    go_wp2_with (refine wpList_store_row rfl 185 (.tmp 2) (.tmp 12) rfl w.heap.size #[.int .i64 s, .int .i64 p, .int .i64 i] rfl rfl 185 _ Hg.out Kinf.out rfl Kall.out ?_)
    refine bodyPost_ret (results_cell_row rfl _ _ w.heap.size 185 #[.int .i64 s, .int .i64 p, .int .i64 i] (0, 0) _ rfl (setRow_heap _ _ _ _ _ _ Hg.out) Tryz.underlying185 rfl (by kernel_rfl)) rfl ?_; exact ⟨rfl, setRow_below (((Below.refl w.heap.size w).alloc (Nat.le_refl _) _).trans (hb.mono (by simp))) (Nat.le_refl _) _⟩
end Go.Proofs.YtceclmpmpldmlaaGreat

/- Chapter 18: which values may be. -/
namespace Go.Proofs.YtceclmpmpldmlaaGreat
open Go.RowKit Tt
set_option linter.unusedVariables false

def textB : List Int → Bool
  | [] => true
  | [x] => x == 0
  | x :: y :: r => (x != 0) && textB (y :: r)
theorem textB_iff : ∀ l : List Int, textB l = true ↔ ∀ i, i < l.length → (l.getD i 0 = 0 ↔ i + 1 = l.length)
  | [] => by simp [textB]
  | [x] => by
    simp only [textB, beq_iff_eq, List.length_cons, List.length_nil]; refine ⟨fun h i hi => ?_, fun h => ?_⟩
    · obtain rfl : i = 0 := by omega
      simp [h]
    · have := h 0 (by omega)
      simpa using this
  | x :: y :: r => by
    have ih := textB_iff (y :: r); simp only [textB, Bool.and_eq_true, bne_iff_ne, ne_eq]; rw [ih]; refine ⟨fun ⟨h0, h⟩ i hi => ?_, fun h => ⟨?_, fun i hi => ?_⟩⟩
    · cases i with
      | zero => simp [h0]
      | succ i =>
        rw [List.getD_cons_succ, h i (by simpa using hi)]
        simp
    · have := h 0 (by simp)
      simpa using this
    · have := h (i + 1) (by simpa using hi)
      rw [List.getD_cons_succ] at this; rw [this]
      simp
theorem byte_zero {x : Int} (h : 0 ≤ x ∧ x < 256) : (UInt8.ofNat x.toNat == (0 : Int).toNat.toUInt8) = (x == 0) := by
  rw [Bool.eq_iff_iff, beq_iff_eq, beq_iff_eq]
  constructor
  · intro h2
    have h3 := congrArg UInt8.toNat h2
    simp [Nat.mod_eq_of_lt (show x.toNat < 256 by omega)] at h3
    omega
  · rintro rfl; rfl
theorem textB_idx : ∀ l : List Int, Byt l → (Lib.indexByte (Lib.bytesOf l) (0 : Int).toNat.toUInt8 = (l.length : Int) - 1 ↔ textB l = true)
  | [], _ => by simp [Lib.bytesOf, Lib.indexByte, textB]
  | [x], h => by
    have hx := byte_zero (h x (by simp)); simp only [Lib.bytesOf, List.map_cons, List.map_nil, Lib.indexByte, textB, hx]
    cases hc : x == 0 <;> simp
  | x :: y :: r, h => by
    have hx := byte_zero (h x (by simp)); have ih := textB_idx (y :: r) (fun z hz => h z (List.mem_cons_of_mem _ hz)); have hg := Lib.indexByte_ge (Lib.bytesOf (y :: r)) (0 : Int).toNat.toUInt8
    have e : Lib.indexByte (Lib.bytesOf (x :: y :: r)) (0 : Int).toNat.toUInt8 = if (x == 0) = true then 0 else if Lib.indexByte (Lib.bytesOf (y :: r)) (0 : Int).toNat.toUInt8 == -1 then -1 else Lib.indexByte (Lib.bytesOf (y :: r)) (0 : Int).toNat.toUInt8 + 1 := by
      rw [← hx]; rfl
    rw [e]; simp only [textB, Bool.and_eq_true, bne_iff_ne, ne_eq, ← ih]
    generalize Lib.indexByte (Lib.bytesOf (y :: r)) (0 : Int).toNat.toUInt8 = k at *
    have hl : ((x :: y :: r).length : Int) = ((y :: r).length : Int) + 1 := by simp
    have hl2 : (1 : Int) ≤ ((y :: r).length : Int) := by simp; omega
    rw [hl]
    generalize ((y :: r).length : Int) = n at *
    by_cases h0 : x = 0
    · simp [h0]; omega
    · by_cases h1 : k = -1
      · simp [h0, h1]; omega
      · simp [h0, h1]; omega

/-- whether a value may be -/
def mayS (ty cnt : Int) (d : List Int) : Bool :=
  decide ((kindS ty).1 ≠ 0) && decide (1 ≤ cnt) && decide (cnt ≤ 65536) && decide ((d.length : Int) = cnt * (kindS ty).1) && (ty != 2 || textB d)
theorem may_no {ty cnt : Int} {d : List Int} (h : (kindS ty).1 = 0 ∨ cnt < 1 ∨ 65536 < cnt ∨ (d.length : Int) ≠ cnt * (kindS ty).1) : mayS ty cnt d = false := by
  unfold mayS
  rcases h with h | h | h | h
  · simp [h]
  · rw [decide_eq_false (show ¬ 1 ≤ cnt by omega)]; simp
  · rw [decide_eq_false (show ¬ cnt ≤ 65536 by omega)]; simp
  · rw [decide_eq_false h]; simp
theorem may_else {ty cnt : Int} {d : List Int} (h1 : (kindS ty).1 ≠ 0) (h2 : ¬ cnt < 1) (h3 : ¬ 65536 < cnt) (h4 : (d.length : Int) = cnt * (kindS ty).1) : mayS ty cnt d = (ty != 2 || textB d) := by
  unfold mayS; rw [decide_eq_true h1, decide_eq_true (show 1 ≤ cnt by omega), decide_eq_true (show cnt ≤ 65536 by omega), decide_eq_true h4]
  simp

set_option maxHeartbeats 4000000 in
theorem may_any (ty cnt : Int) (a : Option Addr) (n c : Nat) (d : List Int) (w : World) (hs : Sl w a n c 1 (ints .u8 d)) (bd : Byt d) :
    Calls Tryz.prog 102 #[.agg #[.int .i64 ty, .int .i64 cnt, .slice a n c]] w fun e w' => e = .returned (.bool (mayS ty cnt d)) ∧ Below w.heap.size w w' := by
  have hl := hs.ilen; obtain ⟨m, hm⟩ : ∃ m, mayS ty cnt d = m := ⟨_, rfl⟩; rw [hm]; have Hm := Lib.hid hm; have Hs := Lib.hid hs; have Hl := Lib.hid hl; have Bd := Lib.hid bd; have hsz := kindS_size ty; have hmx := hs.max; have hle := hs.le; clear hm hs hl bd; obtain ⟨sz, pt, is, hk⟩ : ∃ s p i, kindS ty = (s, p, i) := ⟨_, _, _, rfl⟩; rw [hk] at hsz; simp only at hsz; have Hk := Lib.hid hk; clear hk; have hkc := fun W => kind_any ty W; rw [Hk.out] at hkc; simp only at hkc
  go_enter Tryz.func102, Tryz.ntmps102
  go_wp2_with fail
  refine (hkc _).mono ?_; rintro e w1 ⟨rfl, hb⟩; have hb1 : Below w.heap.size w w1 := ((Below.refl w.heap.size w).alloc (Nat.le_refl _) _).trans (hb.mono (by simp)); obtain ⟨g, hg⟩ : ∃ g, g = w.heap.size := ⟨_, rfl⟩; have hblk : w1.heap[g]? = some (.cells #[.int .i64 ty, .int .i64 cnt, .slice a n c] 72) := by rw [hg]; exact (hb.block w.heap.size (by simp)).trans (heap_new w _)
  have hlt : g < w1.heap.size := (Array.getElem?_eq_some_iff.1 hblk).1; have c0 : w1.cell? ⟨g, 0, none⟩ = some (.int .i64 ty) := by unfold World.cell?; rw [hblk]; rfl
  have c1 : w1.cell? ⟨g, 1, none⟩ = some (.int .i64 cnt) := by unfold World.cell?; rw [hblk]; rfl
  have c2 : w1.cell? ⟨g, 2, none⟩ = some (.slice a n c) := by unfold World.cell?; rw [hblk]; rfl
  have Hs1 := Lib.hid (Hs.out.mono hb1); rw [← hg]; have HG := Lib.hid hg; have HB := Lib.hid hb1; clear hb hb1 hg hblk hkc
  by_cases t1 : sz = 0
  · subst t1
    obtain rfl : m = false := by rw [← Hm.out]; exact may_no (.inl (by rw [Hk.out]))
    go_wp2
    go_ret
    exact ⟨rfl, HB.out.alloc HB.out.size _⟩
  by_cases t2 : cnt < 1
  · obtain rfl : m = false := by rw [← Hm.out]; exact may_no (.inr (.inl t2))
    go_wp2
    go_ret
    exact ⟨rfl, HB.out.alloc HB.out.size _⟩
  by_cases t3 : 65536 < cnt
  · obtain rfl : m = false := by rw [← Hm.out]; exact may_no (.inr (.inr (.inl t3)))
    go_wp2
    go_ret
    exact ⟨rfl, HB.out.alloc HB.out.size _⟩
  have hw : IntKind.i64.wrap (cnt * sz) = cnt * sz := by
    have : 0 ≤ cnt * sz := Int.mul_nonneg (by omega) (by omega); have : cnt * sz ≤ 65536 * 8 := Int.mul_le_mul (by omega) (by omega) (by omega) (by omega); rw [IntKind.wrap_i64]; omega
  have f1 : (sz == 0) = false := by simp [t1]
  by_cases t4 : (n : Int) = cnt * sz
  · have hmm := may_else (ty := ty) (cnt := cnt) (d := d) (by rw [Hk.out]; exact t1) t2 t3 (by rw [Hl.out, Hk.out]; exact t4)
    rw [Hm.out] at hmm; have Hmm := Lib.hid hmm; have f4 : ((n : Int) != cnt * sz) = false := by simp [t4]
    clear hmm t4
    by_cases t5 : ty = 2
    · subst t5
      have hti := (textB_idx d Bd.out); rw [Hl.out] at hti; have hi := fun j => (indexbyte_any a n c d 0 ((w1.alloc (.cells #[.int .i64 sz, .int .i64 pt, .int .i64 is] 185)).drewN j) (sl_alloc Hs1.out _).drewN).mono (fun e w' (h : _ ∧ _) => (⟨h.1, by rw [← h.2]; exact Qt.refl _⟩ : _ ∧ Qt _ w')); obtain ⟨k, hkk⟩ : ∃ k, Lib.indexByte (Lib.bytesOf d) (0 : Int).toNat.toUInt8 = k := ⟨_, rfl⟩; rw [hkk] at hti hi; have hk2 := Lib.indexByte_ge (Lib.bytesOf d) (0 : Int).toNat.toUInt8; rw [hkk] at hk2
      have hmk : m = (k == (n : Int) - 1) := by
        rw [Hmm.out, Bool.eq_iff_iff, beq_iff_eq, hti]
        simp
      have Hmk := Lib.hid hmk; have Hi := Lib.hid hi; clear hti hkk hi hmk
      go_wp2_with fail
      go_quiet ((go_at_call 159; exact Calls.quiet_of (Hi.out _)))
      go_wp2
      go_ret
      exact ⟨ret_bool Hmk.out.symm, (HB.out.alloc HB.out.size _).trans (Qt.below ⟨_, rfl⟩ _)⟩
    · have f5 : (ty == 2) = false := by simp [t5]
      have f6 : (ty != 2) = true := by simp [t5]
      have hmm : m = true := by rw [Hmm.out, f6]; rfl
      subst hmm
      go_wp2_with fail
      go_quiet (fail)
      go_wp2
      go_ret
      exact ⟨rfl, (HB.out.alloc HB.out.size _).trans (Qt.below ⟨_, rfl⟩ _)⟩
  · obtain rfl : m = false := by rw [← Hm.out]; exact may_no (.inr (.inr (.inr (by rw [Hl.out, Hk.out]; exact t4))))
    have f4 : ((n : Int) != cnt * sz) = true := by simp [t4]
    go_wp2
    go_ret
    exact ⟨rfl, HB.out.alloc HB.out.size _⟩
end Go.Proofs.YtceclmpmpldmlaaGreat

/- Chapter 18, the document: sizes, and which values may be. -/
namespace Go.Proofs.YtceclmpmpldmlaaGreat
open Go.RowKit Tt
set_option linter.unusedVariables false

set_option maxHeartbeats 2000000 in
theorem rsize_any (n : Int) (w : World) : Calls Tryz.prog 146 #[.int .i64 n] w fun e w' => e = .returned (.int .i64 (kindS n).1) ∧ w = w' := by
  by_cases h1 : n = 1
  · subst h1
    have e : (kindS 1).1 = 1 := by decide
    rw [e]
    go_enter Tryz.func146, Tryz.ntmps146
    go_wp2
    go_ret
    exact ⟨rfl, rfl⟩
  by_cases h2 : n = 2
  · subst h2
    have e : (kindS 2).1 = 1 := by decide
    rw [e]
    go_enter Tryz.func146, Tryz.ntmps146
    go_wp2
    go_ret
    exact ⟨rfl, rfl⟩
  by_cases h3 : n = 3
  · subst h3
    have e : (kindS 3).1 = 2 := by decide
    rw [e]
    go_enter Tryz.func146, Tryz.ntmps146
    go_wp2
    go_ret
    exact ⟨rfl, rfl⟩
  by_cases h4 : n = 4
  · subst h4
    have e : (kindS 4).1 = 4 := by decide
    rw [e]
    go_enter Tryz.func146, Tryz.ntmps146
    go_wp2
    go_ret
    exact ⟨rfl, rfl⟩
  by_cases h5 : n = 5
  · subst h5
    have e : (kindS 5).1 = 8 := by decide
    rw [e]
    go_enter Tryz.func146, Tryz.ntmps146
    go_wp2
    go_ret
    exact ⟨rfl, rfl⟩
  by_cases h6 : n = 6
  · subst h6
    have e : (kindS 6).1 = 1 := by decide
    rw [e]
    go_enter Tryz.func146, Tryz.ntmps146
    go_wp2
    go_ret
    exact ⟨rfl, rfl⟩
  by_cases h7 : n = 7
  · subst h7
    have e : (kindS 7).1 = 1 := by decide
    rw [e]
    go_enter Tryz.func146, Tryz.ntmps146
    go_wp2
    go_ret
    exact ⟨rfl, rfl⟩
  by_cases h8 : n = 8
  · subst h8
    have e : (kindS 8).1 = 2 := by decide
    rw [e]
    go_enter Tryz.func146, Tryz.ntmps146
    go_wp2
    go_ret
    exact ⟨rfl, rfl⟩
  by_cases h9 : n = 9
  · subst h9
    have e : (kindS 9).1 = 4 := by decide
    rw [e]
    go_enter Tryz.func146, Tryz.ntmps146
    go_wp2
    go_ret
    exact ⟨rfl, rfl⟩
  by_cases h10 : n = 10
  · subst h10
    have e : (kindS 10).1 = 8 := by decide
    rw [e]
    go_enter Tryz.func146, Tryz.ntmps146
    go_wp2
    go_ret
    exact ⟨rfl, rfl⟩
  by_cases h11 : n = 11
  · subst h11
    have e : (kindS 11).1 = 4 := by decide
    rw [e]
    go_enter Tryz.func146, Tryz.ntmps146
    go_wp2
    go_ret
    exact ⟨rfl, rfl⟩
  by_cases h12 : n = 12
  · subst h12
    have e : (kindS 12).1 = 8 := by decide
    rw [e]
    go_enter Tryz.func146, Tryz.ntmps146
    go_wp2
    go_ret
    exact ⟨rfl, rfl⟩
  have e : (kindS n).1 = 0 := by
    rcases Classical.em (n < 0 ∨ 12 < n) with h | h
    · rw [kindS_out h]
    · obtain rfl : n = 0 := by omega
      decide
  rw [e]
  go_enter Tryz.func146, Tryz.ntmps146
  go_wp2
  go_ret
  exact ⟨rfl, rfl⟩

theorem textB_no {l : List Int} {i : Nat} (hi : i < l.length) (h : ¬ (l.getD i 0 = 0 ↔ i + 1 = l.length)) : textB l = false := by
  cases hb : textB l
  · rfl
  · exact absurd ((textB_iff l).1 hb i hi) h

set_option maxHeartbeats 4000000 in
theorem rmay_any (ty cnt : Int) (a : Option Addr) (n c : Nat) (d : List Int) (w : World) (hs : Sl w a n c 1 (ints .u8 d)) :
    Calls Tryz.prog 183 #[.agg #[.int .i64 ty, .int .i64 cnt, .slice a n c]] w fun e w' => e = .returned (.bool (mayS ty cnt d)) ∧ Below w.heap.size w w' := by
  have hl := hs.ilen; obtain ⟨m, hm⟩ : ∃ m, mayS ty cnt d = m := ⟨_, rfl⟩; rw [hm]; have Hm := Lib.hid hm; have Hl := Lib.hid hl; have hsz := kindS_size ty; have hmx := hs.max; have hle := hs.le; obtain ⟨w1, hw1⟩ : ∃ w1, w1 = w.alloc (.cells #[.int .i64 ty, .int .i64 cnt, .slice a n c] 72) := ⟨_, rfl⟩; have hb1 : Below w.heap.size w w1 := by rw [hw1]; exact (Below.refl _ _).alloc (Nat.le_refl _) _
  have Hs1 := Lib.hid (hs.mono hb1); obtain ⟨g, hg⟩ : ∃ g, g = w.heap.size := ⟨_, rfl⟩; have hblk : w1.heap[g]? = some (.cells #[.int .i64 ty, .int .i64 cnt, .slice a n c] 72) := by rw [hg, hw1]; exact heap_new w _
  have hlt : g < w1.heap.size := (Array.getElem?_eq_some_iff.1 hblk).1; have c0 : w1.cell? ⟨g, 0, none⟩ = some (.int .i64 ty) := by unfold World.cell?; rw [hblk]; rfl
  have c1 : w1.cell? ⟨g, 1, none⟩ = some (.int .i64 cnt) := by unfold World.cell?; rw [hblk]; rfl
  have c2 : w1.cell? ⟨g, 2, none⟩ = some (.slice a n c) := by unfold World.cell?; rw [hblk]; rfl
  have HB := Lib.hid hb1; clear hm hl hs hb1 hblk; obtain ⟨sz, pt, is, hk⟩ : ∃ s p i, kindS ty = (s, p, i) := ⟨_, _, _, rfl⟩; rw [hk] at hsz; simp only at hsz; have Hk := Lib.hid hk; clear hk; have hkc := fun j => (rsize_any ty (w1.drewN j)).mono (fun e w' (h : _ ∧ _) => (⟨h.1, by rw [← h.2]; exact Qt.refl _⟩ : _ ∧ Qt _ w')); rw [Hk.out] at hkc; simp only at hkc; have Hkc := Lib.hid hkc; clear hkc
  go_enter Tryz.func183, Tryz.ntmps183
  go_wp2_with fail
  rw [← hw1, ← hg]; have HG := Lib.hid hg; clear hw1 hg
  by_cases t1 : sz = 0
  · subst t1
    obtain rfl : m = false := by rw [← Hm.out]; exact may_no (.inl (by rw [Hk.out]))
    go_quiet ((go_at_call 146; exact Calls.quiet_of (Hkc.out _)))
    go_wp2
    go_ret
    exact ⟨rfl, HB.out.trans (Qt.below ⟨_, rfl⟩ _)⟩
  have f1 : (sz == 0) = false := by simp [t1]
  by_cases t2 : cnt < 1
  · obtain rfl : m = false := by rw [← Hm.out]; exact may_no (.inr (.inl t2))
    go_quiet ((go_at_call 146; exact Calls.quiet_of (Hkc.out _)))
    go_wp2
    go_ret
    exact ⟨rfl, HB.out.trans (Qt.below ⟨_, rfl⟩ _)⟩
  have f2 : decide (cnt < 1) = false := by simp; omega
  by_cases t3 : 65536 < cnt
  · obtain rfl : m = false := by rw [← Hm.out]; exact may_no (.inr (.inr (.inl t3)))
    go_quiet ((go_at_call 146; exact Calls.quiet_of (Hkc.out _)))
    go_wp2
    go_ret
    exact ⟨rfl, HB.out.trans (Qt.below ⟨_, rfl⟩ _)⟩
  have f3 : decide (65536 < cnt) = false := by simp; omega
  have hw : IntKind.i64.wrap (cnt * sz) = cnt * sz := by
    have : 0 ≤ cnt * sz := Int.mul_nonneg (by omega) (by omega); have : cnt * sz ≤ 65536 * 8 := Int.mul_le_mul (by omega) (by omega) (by omega) (by omega); rw [IntKind.wrap_i64]; omega
  by_cases t4 : (n : Int) = cnt * sz
  · have hmm := may_else (ty := ty) (cnt := cnt) (d := d) (by rw [Hk.out]; exact t1) t2 t3 (by rw [Hl.out, Hk.out]; exact t4)
    rw [Hm.out] at hmm; have Hmm := Lib.hid hmm; have f4 : ((n : Int) != cnt * sz) = false := by simp [t4]
    clear hmm t4
    go_quiet ((go_at_call 146; exact Calls.quiet_of (Hkc.out _)))
    go_wp2
    go_loopw [3] (fun i wr => ∃ k : Nat, k ≤ n ∧ i = .int .i64 k ∧ Hid (∀ j, j < k → (d.getD j 0 = 0 ↔ j + 1 = n)) ∧ Qt w1 wr) (fun i _ => n - (intOf i).toNat)
    case atStart => exact ⟨0, by omega, rfl, Lib.hid (fun j hj => by omega), ⟨_, rfl⟩⟩
    case round =>
      obtain ⟨k, hk, rfl, hall, hq⟩ := hrel
      by_cases t5 : ty = 2
      · subst t5
        have hmt : m = textB d := by rw [Hmm.out]; rfl
        have Hmt := Lib.hid hmt; clear hmt
        by_cases hlt : k < n
        · obtain ⟨b, off, rfl, hbx, hc⟩ := Hs1.out.at hlt
          have e1 := hc k _ (ints_get (by rw [Hl.out]; exact hlt)); clear hc; obtain ⟨x, hx⟩ : ∃ x, d.getD k 0 = x := ⟨_, rfl⟩; rw [hx] at e1; have Hx := Lib.hid hx; clear hx; obtain ⟨j, rfl⟩ := hq.ex
          by_cases t6 : x = 0
          · have g1 : (x == 0) = true := by simp [t6]
            by_cases t7 : k + 1 = n
            · have g2 : ((k : Int) == (n : Int) - 1) = true := by simp; omega
              have hnext : Hid (∀ j, j < k + 1 → (d.getD j 0 = 0 ↔ j + 1 = n)) := Lib.hid (fun j hj => by
                rcases Nat.lt_or_ge j k with h | h
                · exact hall.out j h
                · obtain rfl : j = k := by omega
                  rw [Hx.out]; exact ⟨fun _ => t7, fun _ => t6⟩)
              clear t6 t7 hall
              go_wp2_with fail
              go_quiet (fail)
              go_wp2
              go_roundw
              case rel => exact ⟨k + 1, by omega, by go_num, hnext, ⟨_, rfl⟩⟩
              case measure => simp [intOf]; omega
            · have g2 : ((k : Int) == (n : Int) - 1) = false := by simp; omega
              obtain rfl : m = false := by rw [Hmt.out]; exact textB_no (i := k) (by rw [Hl.out]; exact hlt) (by rw [Hx.out, Hl.out]; exact fun h => t7 (h.1 t6))
              clear t6 t7 hall
              go_wp2_with fail
              go_quiet (fail)
              go_wp2
              go_ret
              exact ⟨rfl, HB.out.trans ((hq.step _).below _)⟩
          · have g1 : (x == 0) = false := by simp [t6]
            by_cases t7 : k + 1 = n
            · have g2 : ((k : Int) == (n : Int) - 1) = true := by simp; omega
              obtain rfl : m = false := by rw [Hmt.out]; exact textB_no (i := k) (by rw [Hl.out]; exact hlt) (by rw [Hx.out, Hl.out]; exact fun h => t6 (h.2 t7))
              clear t6 t7 hall
              go_wp2_with fail
              go_quiet (fail)
              go_wp2
              go_ret
              exact ⟨rfl, HB.out.trans ((hq.step _).below _)⟩
            · have g2 : ((k : Int) == (n : Int) - 1) = false := by simp; omega
              have hnext : Hid (∀ j, j < k + 1 → (d.getD j 0 = 0 ↔ j + 1 = n)) := Lib.hid (fun j hj => by
                rcases Nat.lt_or_ge j k with h | h
                · exact hall.out j h
                · obtain rfl : j = k := by omega
                  rw [Hx.out]; exact ⟨fun h => absurd h t6, fun h => absurd h t7⟩)
              clear t6 t7 hall
              go_wp2_with fail
              go_quiet (fail)
              go_wp2
              go_roundw
              case rel => exact ⟨k + 1, by omega, by go_num, hnext, ⟨_, rfl⟩⟩
              case measure => simp [intOf]; omega
        · obtain rfl : m = true := by
            rw [Hmt.out]; refine (textB_iff d).2 fun i hi => ?_; rw [Hl.out] at hi ⊢; exact hall.out i (by omega)
          obtain ⟨j, rfl⟩ := hq.ex
          go_wp2
          go_ret
          exact ⟨rfl, HB.out.trans (hq.below _)⟩
      · have g1 : (ty == 2) = false := by simp [t5]
        have g2 : (ty != 2) = true := by simp [t5]
        obtain rfl : m = true := by rw [Hmm.out, g2]; rfl
        obtain ⟨j, rfl⟩ := hq.ex
        by_cases hlt : k < n
        · go_wp2
          go_ret
          exact ⟨rfl, HB.out.trans (hq.below _)⟩
        · go_wp2
          go_ret
          exact ⟨rfl, HB.out.trans (hq.below _)⟩
  · obtain rfl : m = false := by rw [← Hm.out]; exact may_no (.inr (.inr (.inr (by rw [Hl.out, Hk.out]; exact t4))))
    have f4 : ((n : Int) != cnt * sz) = true := by simp [t4]
    go_quiet ((go_at_call 146; exact Calls.quiet_of (Hkc.out _)))
    go_wp2
    go_ret
    exact ⟨rfl, HB.out.trans (Qt.below ⟨_, rfl⟩ _)⟩
end Go.Proofs.YtceclmpmpldmlaaGreat

namespace Go.Proofs.YtceclmpmpldmlaaGreat
open Go.RowKit Tt
set_option linter.unusedVariables false
set_option linter.unusedSimpArgs false

def roomB (a l e : Int) : Bool := decide (0 ≤ a) && decide (0 ≤ l) && decide (a ≤ e) && decide (l ≤ e - a)
def longS (ty cnt : Int) : Int := if cnt < 1 ∨ 65536 < cnt then 0 else cnt * (kindS ty).1
def outS (ty cnt : Int) : Int := if 4 < longS ty cnt then longS ty cnt else 0
def inlB (ty cnt : Int) : Bool := decide (0 < longS ty cnt) && decide (longS ty cnt ≤ 4)
theorem longS_le (ty cnt : Int) : 0 ≤ longS ty cnt ∧ longS ty cnt ≤ 524288 := by
  unfold longS; have := kindS_size ty
  split
  · omega
  · rename_i h
    have h1 : cnt * (kindS ty).1 ≤ 65536 * 8 := Int.mul_le_mul (by omega) this.2 this.1 (by omega); exact ⟨Int.mul_nonneg (by omega) this.1, by omega⟩

theorem room_any (a l e : Int) (w : World) (h0 : 0 ≤ e) (h1 : e ≤ 9223372036854775807) : Calls Tryz.prog 111 #[.int .i64 a, .int .i64 l, .int .i64 e] w fun x w' => x = .returned (.bool (roomB a l e)) ∧ w = w' := by
  unfold roomB
  by_cases ha : 0 ≤ a
  · by_cases hl : 0 ≤ l
    · by_cases he : a ≤ e
      · have hw : IntKind.i64.wrap (e - a) = e - a := by rw [IntKind.wrap_i64]; omega
        simp only [ha, hl, he, decide_true, Bool.true_and]
        go_enter Tryz.func111, Tryz.ntmps111
        go_wp2
        go_ret
        exact ⟨rfl, rfl⟩
      · simp only [ha, hl, he, decide_true, decide_false, Bool.true_and, Bool.false_and]
        go_enter Tryz.func111, Tryz.ntmps111
        go_wp2
        go_ret
        exact ⟨rfl, rfl⟩
    · simp only [ha, hl, decide_true, decide_false, Bool.true_and, Bool.false_and]
      go_enter Tryz.func111, Tryz.ntmps111
      go_wp2
      go_ret
      exact ⟨rfl, rfl⟩
  · simp only [ha, decide_false, Bool.false_and]
    go_enter Tryz.func111, Tryz.ntmps111
    go_wp2
    go_ret
    exact ⟨rfl, rfl⟩
set_option maxRecDepth 100000 in
theorem size_any (n : Int) (w : World) : Calls Tryz.prog 229 #[.int .i64 n] w fun e w' => e = .returned (.int .i64 (kindS n).1) ∧ Below w.heap.size w w' := by
  have hK := kind_any n w
  generalize (kindS n).1 = s1 at *
  generalize (kindS n).2.1 = s2 at *
  generalize (kindS n).2.2 = s3 at *
  have hF : ∀ W, (Instr.field 185 (.agg #[.int .i64 s1, .int .i64 s2, .int .i64 s3]) 0).run Tryz.prog W = .ok (.int .i64 s1) W := fun W => by kernel_rfl
  have hK' := Lib.hid hK; clear hK
  go_enter Tryz.func229, Tryz.ntmps229
  go_wp2_with fail
  refine hK'.out.mono ?_; rintro e w1 ⟨rfl, hb1⟩; have HB := Lib.hid hb1; clear hb1
  go_wp2_with fail
  go_ret
  exact ⟨rfl, HB.out⟩
set_option maxRecDepth 20000 in
theorem long_any (ty cnt : Int) (w : World) : Calls Tryz.prog 165 #[.int .i64 ty, .int .i64 cnt] w fun e w' => e = .returned (.int .i64 (longS ty cnt)) ∧ Below w.heap.size w w' := by
  have hk := kindS_size ty; unfold longS
  by_cases h : cnt < 1
  · rw [if_pos (.inl h)]
    go_enter Tryz.func165, Tryz.ntmps165
    go_wp2
    go_ret
    exact ⟨rfl, Below.refl _ _⟩
  · have d1 : decide (cnt < 1) = false := by simp; omega
    by_cases h2 : 65536 < cnt
    · rw [if_pos (.inr h2)]
      go_enter Tryz.func165, Tryz.ntmps165
      go_wp2
      go_ret
      exact ⟨rfl, Below.refl _ _⟩
    · have d2 : decide (65536 < cnt) = false := by simp; omega
      rw [if_neg (by omega)]; have h3 : cnt * (kindS ty).1 ≤ 65536 * 8 := Int.mul_le_mul (by omega) hk.2 hk.1 (by omega); have h4 : 0 ≤ cnt * (kindS ty).1 := Int.mul_nonneg (by omega) hk.1; have hS := fun W => size_any ty W
      generalize (kindS ty).1 = s at *
      have hw : IntKind.i64.wrap (cnt * s) = cnt * s := by rw [IntKind.wrap_i64]; omega
      have hk' := Lib.hid hk; have hS' := Lib.hid hS; clear hk hS
      go_enter Tryz.func165, Tryz.ntmps165
      go_wp2_with (go_at_call 229; refine (hS'.out _).mono ?_; rintro e w1 ⟨rfl, hb1⟩; have HB := Lib.hid hb1; clear hb1)
      go_ret
      exact ⟨rfl, HB.out⟩
theorem out_any (ty cnt : Int) (w : World) : Calls Tryz.prog 161 #[.int .i64 ty, .int .i64 cnt] w fun e w' => e = .returned (.int .i64 (outS ty cnt)) ∧ Below w.heap.size w w' := by
  have hK := long_any ty cnt w; unfold outS
  generalize longS ty cnt = s at *
  have hK' := Lib.hid hK; clear hK
  by_cases h : 4 < s
  · rw [if_pos h]
    go_enter Tryz.func161, Tryz.ntmps161
    go_wp2_with (go_at_call 165; refine (hK'.out).mono ?_; rintro e w1 ⟨rfl, hb1⟩; have HB := Lib.hid hb1; clear hb1)
    go_ret
    exact ⟨rfl, HB.out⟩
  · have d : decide (4 < s) = false := by simp; omega
    rw [if_neg h]
    go_enter Tryz.func161, Tryz.ntmps161
    go_wp2_with (go_at_call 165; refine (hK'.out).mono ?_; rintro e w1 ⟨rfl, hb1⟩; have HB := Lib.hid hb1; clear hb1)
    go_ret
    exact ⟨rfl, HB.out⟩
theorem inl_any (ty cnt : Int) (w : World) : Calls Tryz.prog 113 #[.int .i64 ty, .int .i64 cnt] w fun e w' => e = .returned (.bool (inlB ty cnt)) ∧ Below w.heap.size w w' := by
  have hK := long_any ty cnt w; unfold inlB
  generalize longS ty cnt = s at *
  have hK' := Lib.hid hK; clear hK
  by_cases h : 0 < s
  · simp only [h, decide_true, Bool.true_and]
    go_enter Tryz.func113, Tryz.ntmps113
    go_wp2_with (go_at_call 165; refine (hK'.out).mono ?_; rintro e w1 ⟨rfl, hb1⟩; have HB := Lib.hid hb1; clear hb1)
    go_ret
    exact ⟨rfl, HB.out⟩
  · have d : decide (0 < s) = false := by simp; omega
    rw [d, Bool.false_and]
    go_enter Tryz.func113, Tryz.ntmps113
    go_wp2_with (go_at_call 165; refine (hK'.out).mono ?_; rintro e w1 ⟨rfl, hb1⟩; have HB := Lib.hid hb1; clear hb1)
    go_ret
    exact ⟨rfl, HB.out⟩
end Go.Proofs.YtceclmpmpldmlaaGreat
