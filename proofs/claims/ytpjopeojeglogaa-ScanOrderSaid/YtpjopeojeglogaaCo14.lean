/- Chapter 4: a table asked for codes, and put: the program. | Chapter 4: a symbol put: the program. -/
import Derived.Test.YtpjopeojeglogaaCo13
namespace Tt
open Go Go.RowKit
set_option linter.unusedVariables false
theorem Blk.rowH {w : World} {g : Nat} {T : TypeId} {cs : Array Value} (h : Blk w g T cs) (ds : Array Value) : Blk (w.setRow g ds) g T ds := by
  have h0 : w.heap[g]? = some (.cells cs T) := h; have hg : g < w.heap.size := h.lt
  show (w.setRow g ds).heap[g]? = _
  unfold World.setRow
  simp [Array.getElem?_modify, h0]
section
variable {P : Program} {k e t : TypeId} {w : World} {ops : Array Oper} {rest : List Oper} {o : Oper} {a : Act} {Q : Exit → Act → World → Prop} {b : Nat} {l : List (Value × Value)}
end
end Tt
namespace Go.Proofs.Ytpjopeojeglogaa
open Go.RowKit Tt
set_option linter.unusedVariables false
set_option linter.unusedSimpArgs false

theorem codeS_yes {c s : List Int} (h : hMay c s = true) {i : Nat} (hi : i < s.length) : codeS c s (s.getD i 0) = some ((codesS c).getD i (0, 0)) := by
  unfold codeS; rw [if_pos h]
  have : (List.range s.length).find? (fun j => s.getD j 0 == s.getD i 0) = some i := by
    rw [List.find?_range_eq_some]; refine ⟨by simp, List.mem_range.2 hi, fun j hj => ?_⟩; have := (symOk_iff.1 ((CntOk.of h).2.2.2.2 i hi)).2 j hj (by omega)
    simpa using this
  rw [this]
  rfl
theorem codeS_no {c s : List Int} {x : Int} (h : ∀ i, i < s.length → s.getD i 0 ≠ x) : codeS c s x = none := by
  unfold codeS
  split
  · rw [List.find?_eq_none.2 fun i hi => ?_]
    · rfl
    · have := h i (List.mem_range.1 hi)
      simpa using this
  · rfl
theorem codeS_ok {c s : List Int} {x : Int} {X : Int × Nat} (h : codeS c s x = some X) : hMay c s = true ∧ ∃ i, i < s.length ∧ s.getD i 0 = x ∧ X = (codesS c).getD i (0, 0) := by
  unfold codeS at h
  split at h
  · rename_i hm
    obtain ⟨i, hf, rfl⟩ := Option.map_eq_some_iff.1 h; have := List.find?_some hf; exact ⟨hm, i, List.mem_range.1 (List.mem_of_find?_eq_some hf), by simpa using this, rfl⟩
  · cases h
theorem codeS_bits {c s : List Int} {x : Int} {X : Int × Nat} (h : codeS c s x = some X) : CodeOk X := by
  obtain ⟨hm, i, hi, _, rfl⟩ := codeS_ok h; exact code_at (CntOk.of hm).1 (by rw [codes_len hm]; exact hi)
/-- what a look-up of a symbol gives -/
def codR (q : Option (Int × Nat)) : Value := .tuple #[bitA (q.getD (0, 0)), .bool q.isSome]
set_option maxRecDepth 20000 in
theorem code_run {c s : List Int} {W : World} {b : Nat} (hm : hMay c s = true) (h : AM Try.prog 3 W b (entC c s s.length)) {x : Int} (hx : (Lit.int .i64 x).wf = true) :
    (Instr.lookup 196 (.map (some b)) (.int .i64 x) true).run Try.prog W = .ok (codR (codeS c s x)) W := by
  rcases h.look keyI Try.underlying196 (Maps.keyOf_int_mk Try.underlying3 hx) (z := bitA (0, 0)) (by kernel_rfl) with ⟨h1, h2⟩ | ⟨v, h1, h2⟩
  · rw [h2, codeS_no fun i hi he => ?_]
    · rfl
    · exact h1 (.int .i64 (s.getD i 0), bitA ((codesS c).getD i (0, 0))) (List.mem_map.2 ⟨i, List.mem_range.2 hi, rfl⟩) (by show Value.int .i64 (s.getD i 0) = _; rw [he])
  · obtain ⟨i, hi, he⟩ := List.mem_map.1 h1
    injection he with e1 e2; injection e1 with _ e1; rw [h2, ← e1, codeS_yes hm (List.mem_range.1 hi), ← e2]
    rfl
set_option maxRecDepth 20000 in
set_option maxHeartbeats 1000000 in
theorem tcode_any (tb : Nat) (c s : List Int) (x : Int) (w : World) (h : TbM w tb c s) (hx : (Lit.int .i64 x).wf = true) :
    Calls Try.prog 74 #[.pointer (some ⟨tb, 0, none⟩), .int .i64 x] w fun e w' => e = .returned (codR (codeS c s x)) ∧ Below w.heap.size w w' := by
  obtain ⟨b1, b2, hb, ha, _⟩ := h.ex; have hal := (Below.refl w.heap.size w).alloc (Nat.le_refl _) (.cells #[.int .i64 0, .int .i64 0] 102); have B1 := Blk.new w 102 #[.int .i64 0, .int .i64 0]; have hb1 := hb.late hal; have hr := code_run h.may (ha.late hal) hx; obtain ⟨W1, hW1⟩ : ∃ W, w.alloc (.cells #[.int .i64 0, .int .i64 0] 102) = W := ⟨_, rfl⟩; rw [hW1] at hal B1 hb1 hr; have k0 := hb1.cell (i := 0) rfl; obtain ⟨q, hq⟩ : ∃ q, codeS c s x = q := ⟨_, rfl⟩; rw [hq] at hr; rw [hq]; obtain ⟨⟨V, N⟩, hV⟩ : ∃ X, q.getD (0, 0) = X := ⟨_, rfl⟩; obtain ⟨f, hf⟩ : ∃ f, q.isSome = f := ⟨_, rfl⟩; unfold codR bitA at hr ⊢; rw [hV, hf] at hr; rw [hV, hf]; clear h ha hb; have hal' := Lib.hid hal; have B1' := Lib.hid B1; have hb1' := Lib.hid hb1; have hW1' := Lib.hid hW1; have hq' := Lib.hid hq; have hV' := Lib.hid hV; have hf' := Lib.hid hf; clear hal B1 hb1 hW1 hq hV hf
  go_enter Try.func74, Try.ntmps74
  go_upto_region 3 with fail
  rw [hW1'.out]; have hal2 := (Below.refl W1.heap.size W1).alloc (Nat.le_refl _) (.cells #[.int .i64 V, .int .i64 N] 102); have B2 := Blk.new W1 102 #[.int .i64 V, .int .i64 N]; have B3 := B1'.out.late hal2; have hd2 := hal'.out.trans (hal2.mono hal'.out.size); obtain ⟨W2, hW2⟩ : ∃ W, W1.alloc (.cells #[.int .i64 V, .int .i64 N] 102) = W := ⟨_, rfl⟩; rw [hW2] at B2 B3 hd2; obtain ⟨g2, hg2⟩ : ∃ x, W1.heap.size = x := ⟨_, rfl⟩; rw [hg2] at B2; have j0 : W2.cell? ⟨g2, 0, none⟩ = some (.int .i64 V) := B2.cell rfl; have j1 : W2.cell? ⟨g2, 1, none⟩ = some (.int .i64 N) := B2.cell rfl; clear hal2; have B2' := Lib.hid B2; have B3' := Lib.hid B3; have hd2' := Lib.hid hd2; have hW2' := Lib.hid hW2; have hg2' := Lib.hid hg2; clear B2 B3 hd2 hW2 hg2
  go_upto_region 4 with fail
  rw [hW2'.out, hg2'.out]
  go_wp2_with (refine wpList_store_row rfl 102 (.tmp 4) (.tmp 20) rfl w.heap.size #[.int .i64 V, .int .i64 N] rfl rfl 102 _ B3'.out (by kernel_rfl) rfl (by kernel_rfl) ?_)
  refine bodyPost_ret (results_blk_tmp rfl _ _ w.heap.size 102 #[.int .i64 V, .int .i64 N] _ rfl (Blk.rowH B3'.out _) Try.underlying102 rfl (by kernel_rfl)) rfl ?_; exact ⟨rfl, rowBelow hd2'.out (Nat.le_refl _) _⟩
end Go.Proofs.Ytpjopeojeglogaa

namespace Go.Proofs.Ytpjopeojeglogaa
open Go.RowKit Tt
set_option linter.unusedVariables false
set_option linter.unusedSimpArgs false

def bitsQ : Option (Int × Nat) → List Int
  | some X => lowS X.1 X.2
  | none => []
theorem Wl.bel {S : Nat → Prop} {w w' : World} {wb : Nat} {L : List Int} (h : Wl S w wb L) (hb : Below w.heap.size w w') : Wl (Sx S w w') w' wb L := (h.late hb).sub fun k hk => .inl hk
theorem Wl.lt {S : Nat → Prop} {w : World} {wb : Nat} {L : List Int} (h : Wl S w wb L) : wb < w.heap.size := by obtain ⟨a, n, c, h1, _⟩ := h.ex; exact h1.lt
set_option maxRecDepth 20000 in
set_option maxHeartbeats 1000000 in
theorem tput_any (S : Nat → Prop) (tb wb : Nat) (c s L : List Int) (x : Int) (w : World) (h : TbM w tb c s) (hx : (Lit.int .i64 x).wf = true) (hw : Wl S w wb L) (hL : L.length ≤ 8000000) :
    Calls Try.prog 84 #[.pointer (some ⟨tb, 0, none⟩), .pointer (some ⟨wb, 0, none⟩), .int .i64 x] w fun e w' => e = .returned (.bool (codeS c s x).isSome) ∧ Wl (Sx S w w') w' wb (L ++ bitsQ (codeS c s x)) ∧ Mo S w w' := by
  have hC := tcode_any tb c s x w h hx; have hP := fun W (V : Int) (N : Nat) (hb : Wl S W wb L) (hN : N ≤ 16) => wput_any S wb L V N W hb hN hL; obtain ⟨q, hq⟩ : ∃ q, codeS c s x = q := ⟨_, rfl⟩; have hok := fun X (e : q = some X) => codeS_bits (c := c) (s := s) (x := x) (X := X) (hq.trans e); rw [hq] at hC ⊢; clear h; have hC' := Lib.hid hC; have hP' := Lib.hid hP; have hq' := Lib.hid hq; have hw' := Lib.hid hw; clear hC hP hq hw
  go_enter Try.func84, Try.ntmps84
  cases q with
  | none =>
    have hC1 := hC'.out; unfold codR bitA at hC1; simp only [Option.getD_none, Option.isSome_none] at hC1; clear hC'; have hC1' := Lib.hid hC1; clear hC1
    go_wp2_with fail
    refine hC1'.out.mono ?_; rintro e w1 ⟨rfl, hb1⟩; have hal := (Below.refl w1.heap.size w1).alloc (Nat.le_refl _) (.cells #[.int .i64 0, .int .i64 ((0 : Nat) : Int)] 102); have hd := hb1.trans (hal.mono hb1.size); obtain ⟨w2, hw2⟩ : ∃ W, w1.alloc (.cells #[.int .i64 0, .int .i64 ((0 : Nat) : Int)] 102) = W := ⟨_, rfl⟩; rw [hw2] at hd; clear hal; have hb1' := Lib.hid hb1; have hd' := Lib.hid hd; have hw2' := Lib.hid hw2; clear hb1 hd hw2
    go_wp2_with fail
    go_ret
    have e2 : w1.alloc (.cells #[.int .i64 0, .int .i64 0] 102) = w2 := hw2'.out; rw [e2]; refine ⟨rfl, ?_, Mo.of_below hd'.out⟩
    show Wl _ _ _ (L ++ [])
    rw [List.append_nil]; exact hw'.out.bel hd'.out
  | some X =>
    obtain ⟨V, N⟩ := X; have hC1 := hC'.out; have hN := (hok _ rfl).2.1; unfold codR bitA at hC1; simp only [Option.getD_some, Option.isSome_some] at hC1; clear hC' hok; have hC1' := Lib.hid hC1; clear hC1
    go_upto_region 1 with fail
    go_wp2_with fail
    refine hC1'.out.mono ?_; rintro e w1 ⟨rfl, hb1⟩; have hal := (Below.refl w1.heap.size w1).alloc (Nat.le_refl _) (.cells #[.int .i64 V, .int .i64 N] 102); have hB := Blk.new w1 102 #[.int .i64 V, .int .i64 N]; have hd := hb1.trans (hal.mono hb1.size); obtain ⟨w2, hw2⟩ : ∃ W, w1.alloc (.cells #[.int .i64 V, .int .i64 N] 102) = W := ⟨_, rfl⟩; rw [hw2] at hd hB; obtain ⟨g, hg⟩ : ∃ x, w1.heap.size = x := ⟨_, rfl⟩; rw [hg] at hB; have k0 : w2.cell? ⟨g, 0, none⟩ = some (.int .i64 V) := hB.cell rfl; have k1 : w2.cell? ⟨g, 1, none⟩ = some (.int .i64 N) := hB.cell rfl; have hW2 := hw'.out.late hd; have hP2 := hP'.out w2 V N hW2 hN; clear hal; have hb1' := Lib.hid hb1; have hd' := Lib.hid hd; have hw2' := Lib.hid hw2; have hg' := Lib.hid hg; have hB' := Lib.hid hB; have hW2' := Lib.hid hW2; have hP2' := Lib.hid hP2; clear hb1 hd hw2 hg hB hW2 hP2
    go_upto_region 2 with fail
    rw [hw2'.out, hg'.out]
    go_wp2_with fail
    refine hP2'.out.mono ?_; rintro e w3 ⟨rfl, hW3, hm3⟩; have hW3' := Lib.hid hW3; have hm3' := Lib.hid hm3; clear hW3 hm3
    go_wp2_with fail
    go_ret
    refine ⟨rfl, hW3'.out.sub fun k hk => ?_, (Mo.of_below hd'.out).trans hm3'.out (fun _ _ e => e)⟩
    rcases hk with hk | hk
    · exact .inl hk
    · exact .inr ⟨by have := hd'.out.size; omega, hk.2⟩
end Go.Proofs.Ytpjopeojeglogaa
