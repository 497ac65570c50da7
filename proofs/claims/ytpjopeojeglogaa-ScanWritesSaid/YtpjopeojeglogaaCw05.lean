/- Chapter 4: whether a table may be: the program. | Chapter 4: whether a table may be: the document. | Chapter 14: a quantisation table's bytes: the program. | Chapter 14: a table of codes' bytes: the program. | Chapter 14: a frame, whether it may be, its bytes; an interval: the program. | Chapter 14: quantisation tables' bytes: the document. | Chapter 14: an interval read; what is gone through; the examples. | Chapter 14: the chapter's examples. | Chapter 14: the law TablesWrite: the walk. -/
import Derived.Test.YtpjopeojeglogaaCw04
import Derived.Lib.AppendZeros
import Derived.Test.YtpjopeojeglogaaCw01
import Derived.Test.YtpjopeojeglogaaCw00
import Derived.Test.YtpjopeojeglogaaCw02
namespace Go.Proofs.Ytpjopeojeglogaa
open Go.RowKit Tt
set_option linter.unusedVariables false
set_option linter.unusedSimpArgs false

/-- a table of codes as a value -/
def hV (c : List Int) (a : Option Addr) (n cp : Nat) : Value := .agg (ints .i64 c ++ [Value.slice a n cp]).toArray
/-- how many there are among the first ones -/
def cntIn (s : List Int) (k : Nat) (x : Int) : Int := ((s.take k).count x : Nat)
set_option maxRecDepth 20000 in
set_option maxHeartbeats 1000000 in
theorem pmay04_any (c s : List Int) (a : Option Addr) (n cp : Nat) (w : World) (hc : c.length = 16) (hs : Sl w a n cp 1 (ints .i64 s)) (hw : ∀ x ∈ s, (Lit.int .i64 x).wf = true) (hn : n ≤ 100000) :
    Calls Try.prog 72 #[hV c a n cp] w fun e w' => e = .returned (.bool (hMay c s)) ∧ Below w.heap.size w w' := by
  obtain ⟨m, hm⟩ : ∃ m, hMay c s = m := ⟨_, rfl⟩; rw [hm]; have hl := hs.ilen; unfold hV; have hcl : (ints .i64 c).length = 16 := by rw [ints_len, hc]
  obtain ⟨B, hB⟩ : ∃ B, (ints .i64 c ++ [Value.slice a n cp]).toArray = B := ⟨_, rfl⟩; obtain ⟨A, hA⟩ : ∃ A, (ints .i64 c).toArray = A := ⟨_, rfl⟩; have b1 := Blk.new w 45 B; have hb1 := (Below.refl w.heap.size w).alloc (Nat.le_refl _) (.cells B 45); obtain ⟨W1, hW1⟩ : ∃ W1, w.alloc (.cells B 45) = W1 := ⟨_, rfl⟩; rw [hW1] at b1 hb1; have hs1 := hs.mono hb1
  have HC : ∀ j v, (ints .i64 c)[j]? = some v → W1.cell? ⟨w.heap.size, 0 + j, none⟩ = some v := fun j v h => by
    refine b1.cell ?_; rw [← hB, Nat.zero_add]; simp only [List.getElem?_toArray]; rw [List.getElem?_append_left (List.getElem?_eq_some_iff.1 h).1, h]
  have c16 : W1.cell? ⟨w.heap.size, 16, none⟩ = some (.slice a n cp) := b1.cell (by
    rw [← hB]; simp only [List.getElem?_toArray]; rw [List.getElem?_append_right (by omega), hcl]
    rfl)
  have hix : ∀ (k : Nat) x, c[k]? = some x → k < 16 → ∀ W, (Instr.index 43 (.agg A) (.int .i64 k)).run Try.prog W = .ok (.int .i64 x) W := fun k x h1 h2 W => by
    rw [← hA]; exact run_index_arr _ _ 16 c .i64 k x Try.underlying43 Try.underlying3 (by kernel_rfl) h1 h2 W
  rw [hB]; have HA := Lib.hid hA; clear hA hB; have hm' := Lib.hid hm; have hl' := Lib.hid hl; have hb1' := Lib.hid hb1; have b1' := Lib.hid b1; have hs' := Lib.hid hs; have hs1' := Lib.hid hs1; have HC' := Lib.hid HC; have hix' := Lib.hid hix; have hcl' := Lib.hid hcl; have hc' := Lib.hid hc; have hw' := Lib.hid hw; have hW1' := Lib.hid hW1; clear hm hl hb1 b1 hs hs1 HC hix hcl hc hw hW1
  go_enter Try.func72, Try.ntmps72
  go_upto_region 2 with fail
  rw [hW1'.out]
  go_wp2_with (refine wpList_load_at rfl 43 (.tmp 10) rfl w.heap.size 0 rfl (ints .i64 c) A HA.out _ HC'.out Try.underlying43 rfl 16 (by kernel_rfl) hcl'.out ?_)
  go_loop [3, 4, 12] (fun sv mv iv => ∃ (k : Nat) (S M : Int), k ≤ 16 ∧ iv = .int .i64 k ∧ sv = .int .i64 S ∧ mv = .int .i64 M ∧ Hid (S = kraftS c k ∧ M = manyS c k) ∧ Hid (∀ j, j < k → cntOk c j = true)) (fun _ _ iv => 16 - (intOf iv).toNat)
  case atStart => exact ⟨0, 0, 0, by omega, rfl, rfl, rfl, Lib.hid ⟨rfl, rfl⟩, Lib.hid (fun j hj => by omega)⟩
  case round =>
    obtain ⟨k, S, M, hk, rfl, rfl, rfl, hSM, hall⟩ := hrel
    by_cases hlt : k < 16
    · obtain ⟨x, hx⟩ : ∃ x, c[k]? = some x := ⟨_, List.getElem?_eq_getElem (by rw [hc'.out]; exact hlt)⟩
      have hxd : c.getD k 0 = x := by rw [List.getD_eq_getElem?_getD, hx]; rfl
      have hik := hix'.out k x hx hlt
      by_cases h1 : x < 0
      · obtain rfl : m = false := by rw [← hm'.out]; exact hMay_cnt hlt (by unfold cntOk; rw [hxd]; simp; omega)
        have hx' := Lib.hid hx; have hxd' := Lib.hid hxd; clear hx hxd
        go_wp2
        go_ret
        exact ⟨rfl, hb1'.out⟩
      by_cases h2 : 256 < x
      · obtain rfl : m = false := by rw [← hm'.out]; exact hMay_cnt hlt (by unfold cntOk; rw [hxd]; simp; omega)
        have hx' := Lib.hid hx; have hxd' := Lib.hid hxd; clear hx hxd
        go_wp2
        go_ret
        exact ⟨rfl, hb1'.out⟩
      have hok : cntOk c k = true := cntOk_iff.2 (by rw [hxd]; omega)
      have hall2 : ∀ j, j < k + 1 → cntOk c j = true := fun j hj => by
        rcases Nat.lt_or_ge j k with h | h
        · exact hall.out j h
        · obtain rfl : j = k := by omega
          exact hok
      have b1 := kraft_bd k hall.out; have b2 := many_bd k hall.out; have b3 := term_bd hok; rw [hxd] at b3; obtain ⟨e1, e2⟩ := hSM.out; rw [← e1] at b1; rw [← e2] at b2
      have hnew : S + x * 2 ^ (15 - k) = kraftS c (k + 1) ∧ M + x = manyS c (k + 1) := by
        show _ = kraftS c k + c.getD k 0 * 2 ^ (15 - k) ∧ _ = manyS c k + c.getD k 0
        rw [e1, e2, hxd]; exact ⟨rfl, rfl⟩
      clear e1 e2 hok; have hx' := Lib.hid hx; have hxd' := Lib.hid hxd; have hall2' := Lib.hid hall2; have hnew' := Lib.hid hnew; clear hx hxd hall2 hnew
      go_wp2
      go_round
      case rel => exact ⟨k + 1, _, _, by omega, by go_num, rfl, rfl, hnew', hall2'⟩
      case measure => simp [intOf]; omega
    · obtain rfl : k = 16 := by omega
      clear hix'; have hmm := @run_makeMap Try.prog; have b1 := kraft_bd 16 hall.out; have b2 := many_bd 16 hall.out; obtain ⟨e1, e2⟩ := hSM.out; rw [← e1] at b1; rw [← e2] at b2
      have hend : (∀ i, i < s.length → symOk s i = true) → m = decide (M = n ∧ 1 ≤ M ∧ S < 65536) := fun h => by
        rw [← hm'.out, hMay_end hall.out h]; unfold endOk; rw [← e1, ← e2, hl'.out]
      have hM0 := CMap.new W1; have hal := (Below.refl W1.heap.size W1).alloc (Nat.le_refl _) (.map #[] 0); have hbt : But W1.heap.size (W1.alloc (.map #[] 0)) (W1.alloc (.map #[] 0)) := But.refl _ _; have hsz : w.heap.size < W1.heap.size := b1'.out.lt; have hs2 := hs1'.out.mono hal; have c16' : (W1.alloc (.map #[] 0)).cell? ⟨w.heap.size, 16, none⟩ = some (.slice a n cp) := late hal hsz c16
      have hne : ∀ y, a = some y → 0 < n → y.block ≠ W1.heap.size := fun y hy h0 => by
        obtain ⟨b', o, e, hlt', _⟩ := hs1'.out.at h0; rw [hy] at e; injection e with e; rw [e]
        show b' ≠ _
        omega
      have hbW := hb1'.out.trans (hal.mono hb1'.out.size); obtain ⟨b, hb⟩ : ∃ b, W1.heap.size = b := ⟨_, rfl⟩; obtain ⟨W2, hW2⟩ : ∃ W2, W1.alloc (.map #[] 0) = W2 := ⟨_, rfl⟩; rw [hb] at hbt hM0 hne hsz; rw [hW2] at hM0 hbt hs2 c16' hbW; have hlt2 : b < W2.heap.size := hM0.lt; clear hSM c16 e1 e2; have hend' := Lib.hid hend; have hM0' := Lib.hid hM0; have hal' := Lib.hid hal; have hbt' := Lib.hid hbt; have hs2' := Lib.hid hs2; have hbW' := Lib.hid hbW; have hne' := Lib.hid hne; have hall' := Lib.hid hall; have hb' := Lib.hid hb; have hW2' := Lib.hid hW2; clear hend hM0 hal hbt hs2 hbW hne hall hb hW2
      go_upto_region 11 with fail
      rw [hb'.out, hW2'.out]
      go_wp2
      go_loopw [36] (fun iv wr => ∃ k : Nat, k ≤ n ∧ iv = .int .i64 k ∧ Hid (CMap wr b k (cntIn s k)) ∧ Hid (But b W2 wr) ∧ Hid (∀ j, j < k → symOk s j = true)) (fun iv _ => n - (intOf iv).toNat)
      case atStart =>
        refine ⟨0, by omega, rfl, Lib.hid ?_, hbt', Lib.hid (fun j hj => by omega)⟩; have : cntIn s 0 = fun _ => 0 := by funext x; simp [cntIn]
        rw [this]; exact hM0'.out
      case round =>
        obtain ⟨k, hk, rfl, hC, hB, hall⟩ := hrel
        by_cases hlt : k < n
        · have hkl : k < s.length := by rw [hl'.out]; exact hlt
          obtain ⟨x, hx⟩ : ∃ x, s[k]? = some x := ⟨_, List.getElem?_eq_getElem hkl⟩; have hxd : s.getD k 0 = x := by rw [List.getD_eq_getElem?_getD, hx]; rfl
          have hxw := hw'.out x (List.mem_of_getElem? hx); have hw31 : IntKind.i64.wrap ((k : Int) + 1) = k + 1 := by rw [IntKind.wrap_i64]; omega
          obtain ⟨bb, o, rfl, hbb, f⟩ := hs2'.out.at hlt; have f0 := f k _ (by show (ints .i64 s)[k]? = _; rw [ints_get hkl, hxd]); have hbne : bb ≠ b := hne'.out _ rfl (by omega); have f1 : wr.cell? ⟨bb, o + k, none⟩ = some (.int .i64 x) := (hB.out.cell hbb hbne).trans f0; have g1 : wr.cell? ⟨w.heap.size, 16, none⟩ = some (.slice (some ⟨bb, o, none⟩) n cp) := (hB.out.cell (p := ⟨w.heap.size, 16, none⟩) (by show w.heap.size < _; omega) (by show w.heap.size ≠ b; omega)).trans c16'
          have hq0 : 0 ≤ cntIn s k x ∧ cntIn s k x ≤ k := by
            unfold cntIn; have h1 := List.count_le_length (a := x) (l := s.take k); rw [List.length_take] at h1
            omega
          have hL := hC.out.look hxw; have hqw : (Lit.int .i64 (cntIn s k x + 1)).wf = true := wf_of (by omega) (by omega); obtain ⟨w2, hU, hC2, hB2⟩ := hC.out.put (by omega) hxw hqw; have hL2 := hC2.look hxw; rw [if_pos rfl] at hL2
          have hC3 : CMap w2 b (k + 1) (cntIn s (k + 1)) := by
            have e : cntIn s (k + 1) = fun y => if y = x then cntIn s k x + 1 else cntIn s k y := by
              funext y
              unfold cntIn; rw [List.take_add_one, hx, List.count_append]
              by_cases hy : y = x
              · subst hy; simp
              · simp [hy, List.count_cons, Ne.symm hy]
            rw [e]; exact hC2
          have hB3 := hB.out.trans hB2
          have hin : cntIn s k x = 0 ↔ (s.take k).contains x = false := by
            unfold cntIn; rw [List.contains_eq_mem, decide_eq_false_iff_not]
            constructor
            · intro h; exact List.count_eq_zero.1 (by omega)
            · intro h; have := List.count_eq_zero.2 h; omega
          have hso : symOk s k = (decide (0 ≤ x ∧ x ≤ 255) && !(s.take k).contains x) := by unfold symOk; rw [hxd]
          have hq := hq0.1; have hqk := hq0.2; have hwq : IntKind.i64.wrap (cntIn s k x + 1) = cntIn s k x + 1 := by rw [IntKind.wrap_i64]; omega
          have hbel := hbW'.out.trans (hB3.below (B := w.heap.size) (by omega) (by omega))
          generalize cntIn s k x = q at *
          clear hq0 f f0 hC2 hqw hB2
          by_cases h1 : x < 0
          · obtain rfl : m = false := by rw [← hm'.out]; exact hMay_sym hkl (by rw [hso]; simp; omega)
            have hx' := Lib.hid hx; have hxd' := Lib.hid hxd; have hC3' := Lib.hid hC3; have hB3' := Lib.hid hB3; have hin' := Lib.hid hin; have hso' := Lib.hid hso; have hbel' := Lib.hid hbel; clear hx hxd hC3 hB3 hin hso hbel
            go_wp2
            go_ret
            exact ⟨rfl, hbel'.out⟩
          by_cases h2 : 256 ≤ x
          · obtain rfl : m = false := by rw [← hm'.out]; exact hMay_sym hkl (by rw [hso]; simp; omega)
            have hx' := Lib.hid hx; have hxd' := Lib.hid hxd; have hC3' := Lib.hid hC3; have hB3' := Lib.hid hB3; have hin' := Lib.hid hin; have hso' := Lib.hid hso; have hbel' := Lib.hid hbel; clear hx hxd hC3 hB3 hin hso hbel
            go_wp2
            go_ret
            exact ⟨rfl, hbel'.out⟩
          by_cases h3 : 1 < q + 1
          · obtain rfl : m = false := by
              rw [← hm'.out]; refine hMay_sym hkl ?_; rw [hso]
              cases hcc : (s.take k).contains x
              · exact absurd (hin.2 hcc) (by omega)
              · simp
            have hx' := Lib.hid hx; have hxd' := Lib.hid hxd; have hC3' := Lib.hid hC3; have hB3' := Lib.hid hB3; have hin' := Lib.hid hin; have hso' := Lib.hid hso; have hbel' := Lib.hid hbel; clear hx hxd hC3 hB3 hin hso hbel
            go_wp2
            go_ret
            exact ⟨rfl, hbel'.out⟩
          have hok : symOk s k = true := by
            rw [hso, hin.1 (by omega)]
            simp
            omega
          have hall2 : ∀ j, j < k + 1 → symOk s j = true := fun j hj => by
            rcases Nat.lt_or_ge j k with h | h
            · exact hall.out j h
            · obtain rfl : j = k := by omega
              exact hok
          have hx' := Lib.hid hx; have hxd' := Lib.hid hxd; have hC3' := Lib.hid hC3; have hB3' := Lib.hid hB3; have hin' := Lib.hid hin; have hso' := Lib.hid hso; have hbel' := Lib.hid hbel; have hok' := Lib.hid hok; have hall2' := Lib.hid hall2; clear hx hxd hC3 hB3 hin hso hbel hok hall2
          go_wp2
          go_roundw
          case rel => exact ⟨k + 1, by omega, by go_num, hC3', hB3', hall2'⟩
          case measure => simp [intOf]; omega
        · obtain rfl : k = n := by omega
          have g1 : wr.cell? ⟨w.heap.size, 16, none⟩ = some (.slice a k cp) := (hB.out.cell (p := ⟨w.heap.size, 16, none⟩) (by show w.heap.size < _; omega) (by show w.heap.size ≠ b; omega)).trans c16'; have hmd := hend'.out (by rw [hl'.out]; exact hall.out); have hbel := hbW'.out.trans (hB.out.below (B := w.heap.size) (by omega) (by omega)); clear c16'
          by_cases h1 : M = k
          · by_cases h2 : 0 < M
            · by_cases h3 : S < 65536
              · obtain rfl : m = true := by rw [hmd]; simp; omega
                subst h1; have hbel' := Lib.hid hbel; clear hbel; clear hmd
                go_wp2
                go_ret
                exact ⟨rfl, hbel'.out⟩
              · obtain rfl : m = false := by rw [hmd]; simp; omega
                subst h1; have hbel' := Lib.hid hbel; clear hbel; clear hmd
                go_wp2
                go_ret
                exact ⟨rfl, hbel'.out⟩
            · obtain rfl : m = false := by rw [hmd]; simp; omega
              subst h1; have hbel' := Lib.hid hbel; clear hbel; clear hmd
              go_wp2
              go_ret
              exact ⟨rfl, hbel'.out⟩
          · obtain rfl : m = false := by rw [hmd]; simp; omega
            have hbel' := Lib.hid hbel; clear hbel; clear hmd
            go_wp2
            go_ret
            exact ⟨rfl, hbel'.out⟩
end Go.Proofs.Ytpjopeojeglogaa

namespace Go.Proofs.Ytpjopeojeglogaa
open Go.RowKit Tt
set_option linter.unusedVariables false
set_option linter.unusedSimpArgs false

/-- the cells of a table in a block -/
theorem hf_cells {w : World} {g : Nat} {c : List Int} {a : Option Addr} {n cp : Nat} (hc : c.length = 16) (h : Blk w g 45 (ints .i64 c ++ [Value.slice a n cp]).toArray) :
    (∀ k x, c[k]? = some x → w.cell? ⟨g, k, none⟩ = some (.int .i64 x)) ∧ w.cell? ⟨g, 16, none⟩ = some (.slice a n cp) := by
  have hcl : (ints .i64 c).length = 16 := by rw [ints_len, hc]
  refine ⟨fun k x hx => h.cell ?_, h.cell ?_⟩
  · have hk : k < c.length := (List.getElem?_eq_some_iff.1 hx).1
    simp only [List.getElem?_toArray]; rw [List.getElem?_append_left (by omega)]; unfold ints; rw [List.getElem?_map, hx]
    rfl
  · simp only [List.getElem?_toArray]
    rw [List.getElem?_append_right (by omega), hcl]
    rfl
set_option maxRecDepth 20000 in
set_option maxHeartbeats 1000000 in
theorem rmay04_any (c s : List Int) (a : Option Addr) (n cp : Nat) (w : World) (hc : c.length = 16) (hs : Sl w a n cp 1 (ints .i64 s)) (hn : n ≤ 100000) :
    Calls Try.prog 68 #[hV c a n cp] w fun e w' => e = .returned (.bool (hMay c s)) ∧ Below w.heap.size w w' := by
  obtain ⟨m, hm⟩ : ∃ m, hMay c s = m := ⟨_, rfl⟩; rw [hm]; have hl := hs.ilen; unfold hV; obtain ⟨B, hB⟩ : ∃ B, (ints .i64 c ++ [Value.slice a n cp]).toArray = B := ⟨_, rfl⟩; have b1 := Blk.new w 45 B; have hb1 := (Below.refl w.heap.size w).alloc (Nat.le_refl _) (.cells B 45); obtain ⟨W1, hW1⟩ : ∃ W1, w.alloc (.cells B 45) = W1 := ⟨_, rfl⟩; rw [hW1] at b1 hb1; have hs1 := hs.mono hb1; obtain ⟨hC, c16⟩ := hf_cells (a := a) (n := n) (cp := cp) hc (hB ▸ b1); rw [hB]; clear hB; have hm' := Lib.hid hm; have hl' := Lib.hid hl; have hb1' := Lib.hid hb1; have b1' := Lib.hid b1; have hs' := Lib.hid hs; have hs1' := Lib.hid hs1; have hC' := Lib.hid hC; have hc' := Lib.hid hc; have hW1' := Lib.hid hW1; clear hm hl hb1 b1 hs hs1 hC hc hW1
  go_enter Try.func68, Try.ntmps68
  go_upto_region 2 with fail
  rw [hW1'.out]
  go_wp2
  go_loopw [3, 4, 5] (fun mv sv iv wr => ∃ (k : Nat) (S M : Int), k ≤ 16 ∧ iv = .int .i64 k ∧ sv = .int .i64 S ∧ mv = .int .i64 M ∧ Hid (S = kraftS c k ∧ M = manyS c k) ∧ Hid (∀ j, j < k → cntOk c j = true) ∧ Hid (Qt W1 wr)) (fun _ _ iv _ => 16 - (intOf iv).toNat)
  case atStart => exact ⟨0, 0, 0, by omega, rfl, rfl, rfl, Lib.hid ⟨rfl, rfl⟩, Lib.hid (fun j hj => by omega), Lib.hid (Qt.refl _)⟩
  case round =>
    obtain ⟨k, S, M, hk, rfl, rfl, rfl, hSM, hall, hq⟩ := hrel; obtain ⟨dq, rfl⟩ := hq.out.ex
    by_cases hlt : k < 16
    · obtain ⟨x, hx⟩ : ∃ x, c[k]? = some x := ⟨_, List.getElem?_eq_getElem (by rw [hc'.out]; exact hlt)⟩
      have hxd : c.getD k 0 = x := by rw [List.getD_eq_getElem?_getD, hx]; rfl
      have f0 := hC'.out k x hx; have hbel := hb1'.out.trans (Qt.below ⟨dq, rfl⟩ (B := w.heap.size) (b := W1.drewN dq))
      by_cases h1 : x < 0
      · obtain rfl : m = false := by rw [← hm'.out]; exact hMay_cnt hlt (by unfold cntOk; rw [hxd]; simp; omega)
        have hx' := Lib.hid hx; have hxd' := Lib.hid hxd; have hbel' := Lib.hid hbel; clear hx hxd hbel
        go_wp2
        go_ret
        exact ⟨rfl, hbel'.out⟩
      by_cases h2 : 256 < x
      · obtain rfl : m = false := by rw [← hm'.out]; exact hMay_cnt hlt (by unfold cntOk; rw [hxd]; simp; omega)
        have hx' := Lib.hid hx; have hxd' := Lib.hid hxd; have hbel' := Lib.hid hbel; clear hx hxd hbel
        go_wp2
        go_ret
        exact ⟨rfl, hbel'.out⟩
      have hok : cntOk c k = true := cntOk_iff.2 (by rw [hxd]; omega)
      have hall2 : ∀ j, j < k + 1 → cntOk c j = true := fun j hj => by
        rcases Nat.lt_or_ge j k with h | h
        · exact hall.out j h
        · obtain rfl : j = k := by omega
          exact hok
      have b1 := kraft_bd k hall.out; have b2 := many_bd k hall.out; have b3 := term_bd hok; have b4 := pow_le15 k; rw [hxd] at b3; obtain ⟨e1, e2⟩ := hSM.out; rw [← e1] at b1; rw [← e2] at b2
      have hnew : S + x * 2 ^ (15 - k) = kraftS c (k + 1) ∧ M + x = manyS c (k + 1) := by
        show _ = kraftS c k + c.getD k 0 * 2 ^ (15 - k) ∧ _ = manyS c k + c.getD k 0
        rw [e1, e2, hxd]; exact ⟨rfl, rfl⟩
      clear e1 e2 hok; have hx' := Lib.hid hx; have hxd' := Lib.hid hxd; have hall2' := Lib.hid hall2; have hnew' := Lib.hid hnew; have hbel' := Lib.hid hbel; clear hx hxd hall2 hnew hbel
      go_wp2
      go_quiet (fail)
      go_wp2
      go_roundw
      case rel => exact ⟨k + 1, _, _, by omega, by go_num, rfl, rfl, hnew', hall2', Lib.hid ⟨_, rfl⟩⟩
      case measure => simp [intOf]; omega
    · have hk16 : k = 16 := by omega
      have hall := Lib.hid (show ∀ j, j < 16 → cntOk c j = true from fun j hj => hall.out j (by omega)); have hSM := Lib.hid (show S = kraftS c 16 ∧ M = manyS c 16 from hk16 ▸ hSM.out); have b1 := kraft_bd 16 hall.out; have b2 := many_bd 16 hall.out; obtain ⟨e1, e2⟩ := hSM.out; rw [← e1] at b1; rw [← e2] at b2
      have hend : (∀ i, i < s.length → symOk s i = true) → m = decide (M = n ∧ 1 ≤ M ∧ S < 65536) := fun h => by
        rw [← hm'.out, hMay_end hall.out h]; unfold endOk; rw [← e1, ← e2, hl'.out]
      clear e1 e2; have hend' := Lib.hid hend; have hk16' := Lib.hid hk16; clear hend hk16
      go_wp2
      go_loopw [6, 7] (fun iv _ wr => ∃ k : Nat, k ≤ n ∧ iv = .int .i64 k ∧ Hid (∀ j, j < k → symOk s j = true) ∧ Hid (Qt W1 wr)) (fun iv _ _ => n - (intOf iv).toNat)
      case atStart => exact ⟨0, by omega, rfl, Lib.hid (fun j hj => by omega), hq⟩
      case round =>
        obtain ⟨k, hk, rfl, hall, hq⟩ := hrel; obtain ⟨dq, rfl⟩ := hq.out.ex; have hbel := hb1'.out.trans (Qt.below ⟨dq, rfl⟩ (B := w.heap.size) (b := W1.drewN dq))
        by_cases hlt : k < n
        · have hkl : k < s.length := by rw [hl'.out]; exact hlt
          obtain ⟨x, hx⟩ : ∃ x, s[k]? = some x := ⟨_, List.getElem?_eq_getElem hkl⟩; have hxd : s.getD k 0 = x := by rw [List.getD_eq_getElem?_getD, hx]; rfl
          obtain ⟨bb, o, rfl, hbb, f⟩ := hs1'.out.at hlt; have f0 : W1.cell? ⟨bb, o + k, none⟩ = some (.int .i64 x) := f k _ (by show (ints .i64 s)[k]? = _; rw [ints_get hkl, hxd]); have hso : symOk s k = (decide (0 ≤ x ∧ x ≤ 255) && !(s.take k).contains x) := by unfold symOk; rw [hxd]
          by_cases h1 : x < 0
          · obtain rfl : m = false := by rw [← hm'.out]; exact hMay_sym hkl (by rw [hso]; simp; omega)
            clear f; have hx' := Lib.hid hx; have hxd' := Lib.hid hxd; have hso' := Lib.hid hso; have hbel' := Lib.hid hbel; clear hx hxd hso hbel
            go_wp2
            go_ret
            exact ⟨rfl, hbel'.out⟩
          by_cases h2 : 255 < x
          · obtain rfl : m = false := by rw [← hm'.out]; exact hMay_sym hkl (by rw [hso]; simp; omega)
            clear f; have hx' := Lib.hid hx; have hxd' := Lib.hid hxd; have hso' := Lib.hid hso; have hbel' := Lib.hid hbel; clear hx hxd hso hbel
            go_wp2
            go_ret
            exact ⟨rfl, hbel'.out⟩
          have f' := Lib.hid f; have hx' := Lib.hid hx; have hxd' := Lib.hid hxd; have hso' := Lib.hid hso; clear f hx hxd hso; clear hbel
          go_wp2
          go_loopw [7] (fun jv wr => ∃ j : Nat, j ≤ k ∧ jv = .int .i64 j ∧ Hid (∀ i, i < j → s.getD i 0 ≠ x) ∧ Hid (Qt W1 wr)) (fun jv _ => k - (intOf jv).toNat)
          case atStart => exact ⟨0, by omega, rfl, Lib.hid (fun j hj => by omega), hq⟩
          case round =>
            obtain ⟨j, hj, rfl, hno, hq⟩ := hrel; obtain ⟨dq, rfl⟩ := hq.out.ex; have hbel := hb1'.out.trans (Qt.below ⟨dq, rfl⟩ (B := w.heap.size) (b := W1.drewN dq))
            by_cases hjk : j < k
            · have hjl : j < s.length := by omega
              obtain ⟨y, hy⟩ : ∃ y, s[j]? = some y := ⟨_, List.getElem?_eq_getElem hjl⟩; have hyd : s.getD j 0 = y := by rw [List.getD_eq_getElem?_getD, hy]; rfl
              have f1 : W1.cell? ⟨bb, o + j, none⟩ = some (.int .i64 y) := f'.out j _ (by show (ints .i64 s)[j]? = _; rw [ints_get hjl, hyd])
              by_cases hyx : y = x
              · obtain rfl : m = false := by
                  rw [← hm'.out]; refine hMay_sym hkl ?_; rw [hso'.out]
                  have : (s.take k).contains x = true := by
                    rw [List.contains_eq_mem, decide_eq_true_iff]; exact List.mem_take_iff_getElem.2 ⟨j, by omega, by rw [List.getElem?_eq_getElem hjl] at hy; injection hy with hy; rw [hy, hyx]⟩
                  rw [this]
                  simp
                subst hyx; have hy' := Lib.hid hy; have hyd' := Lib.hid hyd; have hbel' := Lib.hid hbel; clear hy hyd hbel
                go_wp2
                go_quiet (fail)
                go_wp2
                go_ret
                exact ⟨rfl, hbel'.out.trans (Qt.below ⟨_, rfl⟩ _)⟩
              · have hno2 : ∀ i, i < j + 1 → s.getD i 0 ≠ x := fun i hi => by
                  rcases Nat.lt_or_ge i j with h | h
                  · exact hno.out i h
                  · obtain rfl : i = j := by omega
                    rw [hyd]; exact hyx
                have hyb : (y == x) = false := by simpa using hyx
                clear hyx; have hy' := Lib.hid hy; have hyd' := Lib.hid hyd; have hbel' := Lib.hid hbel; have hno2' := Lib.hid hno2; clear hy hyd hbel hno2
                go_wp2
                go_quiet (fail)
                go_wp2
                go_roundw
                case rel => exact ⟨j + 1, by omega, by go_num, hno2', Lib.hid ⟨_, rfl⟩⟩
                case measure => simp [intOf]; omega
            · obtain rfl : j = k := by omega
              have hok : symOk s j = true := by
                rw [hso'.out]
                have : (s.take j).contains x = false := by
                  rw [List.contains_eq_mem, decide_eq_false_iff_not]; intro hm; obtain ⟨i, hi, he⟩ := List.mem_take_iff_getElem.1 hm; refine hno.out i (by omega) ?_; rw [List.getD_eq_getElem?_getD, List.getElem?_eq_getElem (by omega)]; exact he
                rw [this]
                simp
                omega
              have hall2 : ∀ i, i < j + 1 → symOk s i = true := fun i hi => by
                rcases Nat.lt_or_ge i j with h | h
                · exact hall.out i h
                · obtain rfl : i = j := by omega
                  exact hok
              have hok' := Lib.hid hok; have hall2' := Lib.hid hall2; have hbel' := Lib.hid hbel; clear hok hall2 hbel
              go_wp2
              go_roundw
              case rel => exact ⟨j + 1, by omega, by go_num, hall2', hq⟩
              case measure => simp [intOf]; omega
        · obtain rfl : k = n := by omega
          have hmd := hend'.out (by rw [hl'.out]; exact hall.out)
          by_cases h1 : M = k
          · by_cases h2 : 1 ≤ M
            · by_cases h3 : S < 65536
              · obtain rfl : m = true := by rw [hmd]; simp; omega
                subst h1; have hbel' := Lib.hid hbel; clear hbel; clear hmd
                go_wp2
                go_ret
                exact ⟨rfl, hbel'.out⟩
              · obtain rfl : m = false := by rw [hmd]; simp; omega
                subst h1; have hbel' := Lib.hid hbel; clear hbel; clear hmd
                go_wp2
                go_ret
                exact ⟨rfl, hbel'.out⟩
            · obtain rfl : m = false := by rw [hmd]; simp; omega
              subst h1; have hbel' := Lib.hid hbel; clear hbel; clear hmd
              go_wp2
              go_ret
              exact ⟨rfl, hbel'.out⟩
          · obtain rfl : m = false := by rw [hmd]; simp; omega
            have hbel' := Lib.hid hbel; clear hbel; clear hmd
            go_wp2
            go_ret
            exact ⟨rfl, hbel'.out⟩
end Go.Proofs.Ytpjopeojeglogaa

namespace Go.Proofs.Ytpjopeojeglogaa
open Go.RowKit Tt
set_option linter.unusedVariables false
set_option linter.unusedSimpArgs false

theorem infoB64 : (Try.prog.info? 129).map (·.size) = some 64 := by kernel_rfl
end Go.Proofs.Ytpjopeojeglogaa

namespace Go.Proofs.Ytpjopeojeglogaa
open Go.RowKit Tt
set_option linter.unusedVariables false
set_option linter.unusedSimpArgs false

theorem infoH17 : (Try.prog.info? 45).map (·.size) = some 17 := by kernel_rfl
theorem or16_fin : ∀ a b : Fin 16, bits BinOp.or IntKind.i64 ((a.val : Int) * 16) (b.val : Int) = 16 * (a.val : Int) + b.val := by decide +kernel
theorem or16 {a b : Int} (h1 : 0 ≤ a) (h2 : a < 16) (h3 : 0 ≤ b) (h4 : b < 16) : bits BinOp.or IntKind.i64 (a * 16) b = 16 * a + b := by
  have h := or16_fin ⟨a.toNat, by omega⟩ ⟨b.toNat, by omega⟩
  simpa [Int.toNat_of_nonneg h1, Int.toNat_of_nonneg h3] using h
end Go.Proofs.Ytpjopeojeglogaa

namespace Go.Proofs.Ytpjopeojeglogaa
open Go.RowKit Tt
set_option linter.unusedVariables false
set_option linter.unusedSimpArgs false

def Wf (x : Int) : Prop := -9223372036854775808 ≤ x ∧ x ≤ 9223372036854775807
end Go.Proofs.Ytpjopeojeglogaa

namespace Go.Proofs.Ytpjopeojeglogaa
open Go.RowKit Tt
set_option linter.unusedVariables false
set_option linter.unusedSimpArgs false

theorem own_neB {w : World} {B : Nat} {E T : TypeId} {sz : Nat} {v : Value} {n g : Nat} {xs : List Value} {cs : Array Value} (h : w.ownsRow B E sz v n xs) (hb : Blk w g T cs) (hE : E ≠ T) : v.ownBlock ≠ some g := fun e => by
  rcases h.2 with ⟨rfl, _⟩ | ⟨g', cap, cur, rfl, _, hg, _⟩
  · cases e
  · injection e with e
    obtain rfl : g' = g := e; unfold Blk at hb; rw [hg] at hb; injection hb with hb; injection hb with _ h2 _; exact hE h2
end Go.Proofs.Ytpjopeojeglogaa

namespace Go.Proofs.Ytpjopeojeglogaa
open Go.RowKit Tt
set_option linter.unusedVariables false
set_option linter.unusedSimpArgs false

theorem conv8 {w : World} {a : Option Addr} {n c : Nat} {xs : List Int} (h : Sl w a n c 1 (ints .u8 xs)) : (convert 30 9 (.slice a n c)).run Try.prog w = .ok (.string (strOfNums xs)) w :=
  conv_run (P := Try.prog) h 30 5 9 Try.underlying30 Try.underlying5 Try.underlying9
end Go.Proofs.Ytpjopeojeglogaa

namespace Go.Proofs.Ytpjopeojeglogaa
open Go.RowKit Tt
set_option linter.unusedVariables false
set_option linter.unusedSimpArgs false

theorem str_list (x : List Int) (l : List UInt8) (h : (x.map fun n => UInt8.ofNat n.toNat) = l) : (strOfNums x).toList = l := by
  rw [Lib.strOfNums_toList]; exact h
end Go.Proofs.Ytpjopeojeglogaa

namespace Go.Proofs.Ytpjopeojeglogaa
open Go.RowKit Tt
set_option linter.unusedVariables false
set_option linter.unusedSimpArgs false

theorem str_same (x : List Int) : ((strOfNums x).toList == (strOfNums x).toList) = true ∧ ((strOfNums x).toList != (strOfNums x).toList) = false := by simp
end Go.Proofs.Ytpjopeojeglogaa
