/- Chapter 4: whether a table may be: the document. | Chapter 14: a quantisation table's bytes: the program. | Chapter 14: a table of codes' bytes: the program. | Chapter 14: a frame, whether it may be, its bytes; an interval: the program. | Chapter 14: a frame's bytes, an interval's: the program. | Chapter 14: quantisation tables' bytes: the document. | Chapter 14: an interval read; what is gone through; the examples. | Chapter 14: the chapter's examples. | Frames: tables and heads that came in (chapter 14). | Chapter 3 (plain): stuffing taken away; bits of bytes. -/
import Derived.Test.YtpjopeojeglogaaCs04
import Derived.Lib.AppendZeros
import Derived.Test.YtpjopeojeglogaaCs01
import Derived.Test.YtpjopeojeglogaaCs00
import Derived.Test.YtpjopeojeglogaaCs02
import Derived.Lib.SmallJoins
namespace Go.Proofs.Ytpjopeojeglogaa
open Go.RowKit Tt
set_option linter.unusedVariables false
set_option linter.unusedSimpArgs false

/-- the cells of a table in a block -/
theorem hf_cells {w : World} {g : Nat} {c : List Int} {a : Option Addr} {n cp : Nat} (hc : c.length = 16) (h : Blk w g 45 (ints .i64 c ++ [Value.slice a n cp]).toArray) :
    (∀ k x, c[k]? = some x → w.cell? ⟨g, k, none⟩ = some (.int .i64 x)) ∧ w.cell? ⟨g, 16, none⟩ = some (.slice a n cp) := by
  have hcl : (ints .i64 c).length = 16 := by rw [ints_len, hc]
  refine ⟨fun k x hx => h.cell ?_, h.cell ?_⟩
  · have hk : k < c.length := (List.getElem?_eq_some_iff.1 hx).1
    simp only [List.getElem?_toArray]; rw [List.getElem?_append_left (by omega)]; unfold ints; rw [List.getElem?_map, hx]
    rfl
  · simp only [List.getElem?_toArray]
    rw [List.getElem?_append_right (by omega), hcl]
    rfl
set_option maxRecDepth 20000 in
set_option maxHeartbeats 1000000 in
theorem rmay04_any (c s : List Int) (a : Option Addr) (n cp : Nat) (w : World) (hc : c.length = 16) (hs : Sl w a n cp 1 (ints .i64 s)) (hn : n ≤ 100000) :
    Calls Try.prog 68 #[hV c a n cp] w fun e w' => e = .returned (.bool (hMay c s)) ∧ Below w.heap.size w w' := by
  obtain ⟨m, hm⟩ : ∃ m, hMay c s = m := ⟨_, rfl⟩; rw [hm]; have hl := hs.ilen; unfold hV; obtain ⟨B, hB⟩ : ∃ B, (ints .i64 c ++ [Value.slice a n cp]).toArray = B := ⟨_, rfl⟩; have b1 := Blk.new w 45 B; have hb1 := (Below.refl w.heap.size w).alloc (Nat.le_refl _) (.cells B 45); obtain ⟨W1, hW1⟩ : ∃ W1, w.alloc (.cells B 45) = W1 := ⟨_, rfl⟩; rw [hW1] at b1 hb1; have hs1 := hs.mono hb1; obtain ⟨hC, c16⟩ := hf_cells (a := a) (n := n) (cp := cp) hc (hB ▸ b1); rw [hB]; clear hB; have hm' := Lib.hid hm; have hl' := Lib.hid hl; have hb1' := Lib.hid hb1; have b1' := Lib.hid b1; have hs' := Lib.hid hs; have hs1' := Lib.hid hs1; have hC' := Lib.hid hC; have hc' := Lib.hid hc; have hW1' := Lib.hid hW1; clear hm hl hb1 b1 hs hs1 hC hc hW1
  go_enter Try.func68, Try.ntmps68
  go_upto_region 2 with fail
  rw [hW1'.out]
  go_wp2
  go_loopw [3, 4, 5] (fun mv sv iv wr => ∃ (k : Nat) (S M : Int), k ≤ 16 ∧ iv = .int .i64 k ∧ sv = .int .i64 S ∧ mv = .int .i64 M ∧ Hid (S = kraftS c k ∧ M = manyS c k) ∧ Hid (∀ j, j < k → cntOk c j = true) ∧ Hid (Qt W1 wr)) (fun _ _ iv _ => 16 - (intOf iv).toNat)
  case atStart => exact ⟨0, 0, 0, by omega, rfl, rfl, rfl, Lib.hid ⟨rfl, rfl⟩, Lib.hid (fun j hj => by omega), Lib.hid (Qt.refl _)⟩
  case round =>
    obtain ⟨k, S, M, hk, rfl, rfl, rfl, hSM, hall, hq⟩ := hrel; obtain ⟨dq, rfl⟩ := hq.out.ex
    by_cases hlt : k < 16
    · obtain ⟨x, hx⟩ : ∃ x, c[k]? = some x := ⟨_, List.getElem?_eq_getElem (by rw [hc'.out]; exact hlt)⟩
      have hxd : c.getD k 0 = x := by rw [List.getD_eq_getElem?_getD, hx]; rfl
      have f0 := hC'.out k x hx; have hbel := hb1'.out.trans (Qt.below ⟨dq, rfl⟩ (B := w.heap.size) (b := W1.drewN dq))
      by_cases h1 : x < 0
      · obtain rfl : m = false := by rw [← hm'.out]; exact hMay_cnt hlt (by unfold cntOk; rw [hxd]; simp; omega)
        have hx' := Lib.hid hx; have hxd' := Lib.hid hxd; have hbel' := Lib.hid hbel; clear hx hxd hbel
        go_wp2
        go_ret
        exact ⟨rfl, hbel'.out⟩
      by_cases h2 : 256 < x
      · obtain rfl : m = false := by rw [← hm'.out]; exact hMay_cnt hlt (by unfold cntOk; rw [hxd]; simp; omega)
        have hx' := Lib.hid hx; have hxd' := Lib.hid hxd; have hbel' := Lib.hid hbel; clear hx hxd hbel
        go_wp2
        go_ret
        exact ⟨rfl, hbel'.out⟩
      have hok : cntOk c k = true := cntOk_iff.2 (by rw [hxd]; omega)
      have hall2 : ∀ j, j < k + 1 → cntOk c j = true := fun j hj => by
        rcases Nat.lt_or_ge j k with h | h
        · exact hall.out j h
        · obtain rfl : j = k := by omega
          exact hok
      have b1 := kraft_bd k hall.out; have b2 := many_bd k hall.out; have b3 := term_bd hok; have b4 := pow_le15 k; rw [hxd] at b3; obtain ⟨e1, e2⟩ := hSM.out; rw [← e1] at b1; rw [← e2] at b2
      have hnew : S + x * 2 ^ (15 - k) = kraftS c (k + 1) ∧ M + x = manyS c (k + 1) := by
        show _ = kraftS c k + c.getD k 0 * 2 ^ (15 - k) ∧ _ = manyS c k + c.getD k 0
        rw [e1, e2, hxd]; exact ⟨rfl, rfl⟩
      clear e1 e2 hok; have hx' := Lib.hid hx; have hxd' := Lib.hid hxd; have hall2' := Lib.hid hall2; have hnew' := Lib.hid hnew; have hbel' := Lib.hid hbel; clear hx hxd hall2 hnew hbel
      go_wp2
      go_quiet (fail)
      go_wp2
      go_roundw
      case rel => exact ⟨k + 1, _, _, by omega, by go_num, rfl, rfl, hnew', hall2', Lib.hid ⟨_, rfl⟩⟩
      case measure => simp [intOf]; omega
    · have hk16 : k = 16 := by omega
      have hall := Lib.hid (show ∀ j, j < 16 → cntOk c j = true from fun j hj => hall.out j (by omega)); have hSM := Lib.hid (show S = kraftS c 16 ∧ M = manyS c 16 from hk16 ▸ hSM.out); have b1 := kraft_bd 16 hall.out; have b2 := many_bd 16 hall.out; obtain ⟨e1, e2⟩ := hSM.out; rw [← e1] at b1; rw [← e2] at b2
      have hend : (∀ i, i < s.length → symOk s i = true) → m = decide (M = n ∧ 1 ≤ M ∧ S < 65536) := fun h => by
        rw [← hm'.out, hMay_end hall.out h]; unfold endOk; rw [← e1, ← e2, hl'.out]
      clear e1 e2; have hend' := Lib.hid hend; have hk16' := Lib.hid hk16; clear hend hk16
      go_wp2
      go_loopw [6, 7] (fun iv _ wr => ∃ k : Nat, k ≤ n ∧ iv = .int .i64 k ∧ Hid (∀ j, j < k → symOk s j = true) ∧ Hid (Qt W1 wr)) (fun iv _ _ => n - (intOf iv).toNat)
      case atStart => exact ⟨0, by omega, rfl, Lib.hid (fun j hj => by omega), hq⟩
      case round =>
        obtain ⟨k, hk, rfl, hall, hq⟩ := hrel; obtain ⟨dq, rfl⟩ := hq.out.ex; have hbel := hb1'.out.trans (Qt.below ⟨dq, rfl⟩ (B := w.heap.size) (b := W1.drewN dq))
        by_cases hlt : k < n
        · have hkl : k < s.length := by rw [hl'.out]; exact hlt
          obtain ⟨x, hx⟩ : ∃ x, s[k]? = some x := ⟨_, List.getElem?_eq_getElem hkl⟩; have hxd : s.getD k 0 = x := by rw [List.getD_eq_getElem?_getD, hx]; rfl
          obtain ⟨bb, o, rfl, hbb, f⟩ := hs1'.out.at hlt; have f0 : W1.cell? ⟨bb, o + k, none⟩ = some (.int .i64 x) := f k _ (by show (ints .i64 s)[k]? = _; rw [ints_get hkl, hxd]); have hso : symOk s k = (decide (0 ≤ x ∧ x ≤ 255) && !(s.take k).contains x) := by unfold symOk; rw [hxd]
          by_cases h1 : x < 0
          · obtain rfl : m = false := by rw [← hm'.out]; exact hMay_sym hkl (by rw [hso]; simp; omega)
            clear f; have hx' := Lib.hid hx; have hxd' := Lib.hid hxd; have hso' := Lib.hid hso; have hbel' := Lib.hid hbel; clear hx hxd hso hbel
            go_wp2
            go_ret
            exact ⟨rfl, hbel'.out⟩
          by_cases h2 : 255 < x
          · obtain rfl : m = false := by rw [← hm'.out]; exact hMay_sym hkl (by rw [hso]; simp; omega)
            clear f; have hx' := Lib.hid hx; have hxd' := Lib.hid hxd; have hso' := Lib.hid hso; have hbel' := Lib.hid hbel; clear hx hxd hso hbel
            go_wp2
            go_ret
            exact ⟨rfl, hbel'.out⟩
          have f' := Lib.hid f; have hx' := Lib.hid hx; have hxd' := Lib.hid hxd; have hso' := Lib.hid hso; clear f hx hxd hso; clear hbel
          go_wp2
          go_loopw [7] (fun jv wr => ∃ j : Nat, j ≤ k ∧ jv = .int .i64 j ∧ Hid (∀ i, i < j → s.getD i 0 ≠ x) ∧ Hid (Qt W1 wr)) (fun jv _ => k - (intOf jv).toNat)
          case atStart => exact ⟨0, by omega, rfl, Lib.hid (fun j hj => by omega), hq⟩
          case round =>
            obtain ⟨j, hj, rfl, hno, hq⟩ := hrel; obtain ⟨dq, rfl⟩ := hq.out.ex; have hbel := hb1'.out.trans (Qt.below ⟨dq, rfl⟩ (B := w.heap.size) (b := W1.drewN dq))
            by_cases hjk : j < k
            · have hjl : j < s.length := by omega
              obtain ⟨y, hy⟩ : ∃ y, s[j]? = some y := ⟨_, List.getElem?_eq_getElem hjl⟩; have hyd : s.getD j 0 = y := by rw [List.getD_eq_getElem?_getD, hy]; rfl
              have f1 : W1.cell? ⟨bb, o + j, none⟩ = some (.int .i64 y) := f'.out j _ (by show (ints .i64 s)[j]? = _; rw [ints_get hjl, hyd])
              by_cases hyx : y = x
              · obtain rfl : m = false := by
                  rw [← hm'.out]; refine hMay_sym hkl ?_; rw [hso'.out]
                  have : (s.take k).contains x = true := by
                    rw [List.contains_eq_mem, decide_eq_true_iff]; exact List.mem_take_iff_getElem.2 ⟨j, by omega, by rw [List.getElem?_eq_getElem hjl] at hy; injection hy with hy; rw [hy, hyx]⟩
                  rw [this]
                  simp
                subst hyx; have hy' := Lib.hid hy; have hyd' := Lib.hid hyd; have hbel' := Lib.hid hbel; clear hy hyd hbel
                go_wp2
                go_quiet (fail)
                go_wp2
                go_ret
                exact ⟨rfl, hbel'.out.trans (Qt.below ⟨_, rfl⟩ _)⟩
              · have hno2 : ∀ i, i < j + 1 → s.getD i 0 ≠ x := fun i hi => by
                  rcases Nat.lt_or_ge i j with h | h
                  · exact hno.out i h
                  · obtain rfl : i = j := by omega
                    rw [hyd]; exact hyx
                have hyb : (y == x) = false := by simpa using hyx
                clear hyx; have hy' := Lib.hid hy; have hyd' := Lib.hid hyd; have hbel' := Lib.hid hbel; have hno2' := Lib.hid hno2; clear hy hyd hbel hno2
                go_wp2
                go_quiet (fail)
                go_wp2
                go_roundw
                case rel => exact ⟨j + 1, by omega, by go_num, hno2', Lib.hid ⟨_, rfl⟩⟩
                case measure => simp [intOf]; omega
            · obtain rfl : j = k := by omega
              have hok : symOk s j = true := by
                rw [hso'.out]
                have : (s.take j).contains x = false := by
                  rw [List.contains_eq_mem, decide_eq_false_iff_not]; intro hm; obtain ⟨i, hi, he⟩ := List.mem_take_iff_getElem.1 hm; refine hno.out i (by omega) ?_; rw [List.getD_eq_getElem?_getD, List.getElem?_eq_getElem (by omega)]; exact he
                rw [this]
                simp
                omega
              have hall2 : ∀ i, i < j + 1 → symOk s i = true := fun i hi => by
                rcases Nat.lt_or_ge i j with h | h
                · exact hall.out i h
                · obtain rfl : i = j := by omega
                  exact hok
              have hok' := Lib.hid hok; have hall2' := Lib.hid hall2; have hbel' := Lib.hid hbel; clear hok hall2 hbel
              go_wp2
              go_roundw
              case rel => exact ⟨j + 1, by omega, by go_num, hall2', hq⟩
              case measure => simp [intOf]; omega
        · obtain rfl : k = n := by omega
          have hmd := hend'.out (by rw [hl'.out]; exact hall.out)
          by_cases h1 : M = k
          · by_cases h2 : 1 ≤ M
            · by_cases h3 : S < 65536
              · obtain rfl : m = true := by rw [hmd]; simp; omega
                subst h1; have hbel' := Lib.hid hbel; clear hbel; clear hmd
                go_wp2
                go_ret
                exact ⟨rfl, hbel'.out⟩
              · obtain rfl : m = false := by rw [hmd]; simp; omega
                subst h1; have hbel' := Lib.hid hbel; clear hbel; clear hmd
                go_wp2
                go_ret
                exact ⟨rfl, hbel'.out⟩
            · obtain rfl : m = false := by rw [hmd]; simp; omega
              subst h1; have hbel' := Lib.hid hbel; clear hbel; clear hmd
              go_wp2
              go_ret
              exact ⟨rfl, hbel'.out⟩
          · obtain rfl : m = false := by rw [hmd]; simp; omega
            have hbel' := Lib.hid hbel; clear hbel; clear hmd
            go_wp2
            go_ret
            exact ⟨rfl, hbel'.out⟩
end Go.Proofs.Ytpjopeojeglogaa

namespace Go.Proofs.Ytpjopeojeglogaa
open Go.RowKit Tt
set_option linter.unusedVariables false
set_option linter.unusedSimpArgs false

theorem infoB64 : (Try.prog.info? 129).map (·.size) = some 64 := by kernel_rfl
end Go.Proofs.Ytpjopeojeglogaa

namespace Go.Proofs.Ytpjopeojeglogaa
open Go.RowKit Tt
set_option linter.unusedVariables false
set_option linter.unusedSimpArgs false

theorem infoH17 : (Try.prog.info? 45).map (·.size) = some 17 := by kernel_rfl
theorem or16_fin : ∀ a b : Fin 16, bits BinOp.or IntKind.i64 ((a.val : Int) * 16) (b.val : Int) = 16 * (a.val : Int) + b.val := by decide +kernel
theorem or16 {a b : Int} (h1 : 0 ≤ a) (h2 : a < 16) (h3 : 0 ≤ b) (h4 : b < 16) : bits BinOp.or IntKind.i64 (a * 16) b = 16 * a + b := by
  have h := or16_fin ⟨a.toNat, by omega⟩ ⟨b.toNat, by omega⟩
  simpa [Int.toNat_of_nonneg h1, Int.toNat_of_nonneg h3] using h
end Go.Proofs.Ytpjopeojeglogaa

namespace Go.Proofs.Ytpjopeojeglogaa
open Go.RowKit Tt
set_option linter.unusedVariables false
set_option linter.unusedSimpArgs false

def Wf (x : Int) : Prop := -9223372036854775808 ≤ x ∧ x ≤ 9223372036854775807
end Go.Proofs.Ytpjopeojeglogaa

namespace Go.Proofs.Ytpjopeojeglogaa
open Go.RowKit Tt
set_option linter.unusedVariables false
set_option linter.unusedSimpArgs false

theorem put2 {n : Int} (h0 : 0 ≤ n) (h1 : n < 65536) : putOk n 2 2 = true ∧ putS n 2 2 = [n / 256, n % 256] := by
  have h : putOk n 2 2 = true := by
    unfold putOk topS
    simp
    omega
  refine ⟨h, ?_⟩; unfold putS; rw [if_pos h, if_neg (by decide)]
  show [(n / 256) % 256, n % 256] = _
  rw [show (n / 256) % 256 = n / 256 by omega]
end Go.Proofs.Ytpjopeojeglogaa

namespace Go.Proofs.Ytpjopeojeglogaa
open Go.RowKit Tt
set_option linter.unusedVariables false
set_option linter.unusedSimpArgs false

theorem own_neB {w : World} {B : Nat} {E T : TypeId} {sz : Nat} {v : Value} {n g : Nat} {xs : List Value} {cs : Array Value} (h : w.ownsRow B E sz v n xs) (hb : Blk w g T cs) (hE : E ≠ T) : v.ownBlock ≠ some g := fun e => by
  rcases h.2 with ⟨rfl, _⟩ | ⟨g', cap, cur, rfl, _, hg, _⟩
  · cases e
  · injection e with e
    obtain rfl : g' = g := e; unfold Blk at hb; rw [hg] at hb; injection hb with hb; injection hb with _ h2 _; exact hE h2
end Go.Proofs.Ytpjopeojeglogaa

namespace Go.Proofs.Ytpjopeojeglogaa
open Go.RowKit Tt
set_option linter.unusedVariables false
set_option linter.unusedSimpArgs false

theorem conv8 {w : World} {a : Option Addr} {n c : Nat} {xs : List Int} (h : Sl w a n c 1 (ints .u8 xs)) : (convert 30 9 (.slice a n c)).run Try.prog w = .ok (.string (strOfNums xs)) w :=
  conv_run (P := Try.prog) h 30 5 9 Try.underlying30 Try.underlying5 Try.underlying9
end Go.Proofs.Ytpjopeojeglogaa

namespace Go.Proofs.Ytpjopeojeglogaa
open Go.RowKit Tt
set_option linter.unusedVariables false
set_option linter.unusedSimpArgs false

theorem str_list (x : List Int) (l : List UInt8) (h : (x.map fun n => UInt8.ofNat n.toNat) = l) : (strOfNums x).toList = l := by
  rw [Lib.strOfNums_toList]; exact h
end Go.Proofs.Ytpjopeojeglogaa

namespace Go.Proofs.Ytpjopeojeglogaa
open Go.ChangeShapes Go.WideShapes Go.ChangeAt Go.RowKit Go.Deep Tt
set_option linter.unusedVariables false
set_option linter.unusedSimpArgs false

section
variable {H : Type} {enc : TypeId × Value → H} {W : World} {base : Nat} {held : Bool}
theorem nums_of {k : IntKind} {m : Nat} {cs : List Value} (hl : cs.length = m) (each : ∀ i, i < m → ∃ z : Int, cs[i]? = some (.int k z) ∧ (Lit.int k z).wf = true) :
    ∃ zs : List Int, zs.length = m ∧ cs = ints k zs ∧ ∀ z ∈ zs, (Lit.int k z).wf = true := by
  have hex : ∀ i, ∃ z : Int, i < m → cs[i]? = some (.int k z) ∧ (Lit.int k z).wf = true := fun i => by
    by_cases hi : i < m
    · obtain ⟨z, hz⟩ := each i hi; exact ⟨z, fun _ => hz⟩
    · exact ⟨0, fun h0 => absurd h0 hi⟩
  obtain ⟨q, hq⟩ := Classical.axiomOfChoice hex; refine ⟨(List.range m).map q, by simp, ?_, ?_⟩
  · apply List.ext_getElem?
    intro i
    by_cases hi : i < m
    · rw [(hq i hi).1]
      simp [ints, hi]
    · rw [List.getElem?_eq_none (by omega), List.getElem?_eq_none (by simp [ints]; omega)]
  · intro z hz
    obtain ⟨i, hi, rfl⟩ := List.mem_map.1 hz; exact (hq i (by simpa using hi)).2
/-- an array of numbers -/
theorem array_nums {t e : TypeId} {k : IntKind} {n fuel : Nat} {cs : List Value} {x : DataW H × List MemPlace} (ht : Try.prog.underlying t = some (.array n e)) (he : Try.prog.underlying e = some (.int k)) (hc : Program.cellsOf Try.prog e = 1) (hn : Program.cellsOf Try.prog t = n)
    (h : DataW.trod enc Try.prog W base (fun _ => true) held fuel t cs = some x) : ∃ zs : List Int, zs.length = n ∧ cs = ints k zs ∧ ∀ z ∈ zs, (Lit.int k z).wf = true := by
  obtain ⟨xs, m, _, _, hl, hxl, hall⟩ := DataW.trod_array ht h; rw [hn] at hl; refine nums_of hl fun i hi => ?_; have h4 := hall i hi; rw [hc, Nat.mul_one, List.getElem?_eq_getElem (show i < xs.length by omega)] at h4; obtain ⟨z, e0, _, hw⟩ := DataW.trod_int he h4; refine ⟨z, ?_, hw⟩; have h5 : ((cs.drop i).take 1)[0]? = some (.int k z) := by rw [e0]; rfl
  rw [List.getElem?_take, if_pos (by decide), List.getElem?_drop, Nat.add_zero] at h5; exact h5
/-- a field of a struct -/
theorem field_of {t : TypeId} {fs : Array Field} {fuel : Nat} {cs : List Value} {x : DataW H × List MemPlace} (ht : Try.prog.underlying t = some (.struct fs)) (h : DataW.trod enc Try.prog W base (fun _ => true) held fuel t cs = some x) (i : Nat) (T : TypeId) (o k : Nat)
    (hf : (fs[i]?).map (fun f => (f.type, f.offset)) = some (T, o)) (hk : Program.cellsOf Try.prog T = k) : ∃ n y, DataW.trod enc Try.prog W base (fun _ => true) held n T ((cs.drop o).take k) = some y := by
  obtain ⟨xs, n, _, _, hl, hxl, hall⟩ := DataW.trod_struct ht h; obtain ⟨f, hf1, hf2⟩ := Option.map_eq_some_iff.1 hf; injection hf2 with e1 e2; have h4 := hall i f hf1
  have hil : i < xs.length := by
    rw [hxl]; exact (Array.getElem?_eq_some_iff.1 hf1).1
  rw [e1, e2, hk, List.getElem?_eq_getElem hil] at h4; exact ⟨n, _, h4⟩
theorem struct_len {t : TypeId} {fs : Array Field} {fuel : Nat} {cs : List Value} {x : DataW H × List MemPlace} (ht : Try.prog.underlying t = some (.struct fs)) (h : DataW.trod enc Try.prog W base (fun _ => true) held fuel t cs = some x) : cs.length = Program.cellsOf Try.prog t := by
  obtain ⟨xs, n, _, _, hl, _⟩ := DataW.trod_struct ht h; exact hl
theorem open_rowv {α : Type} (z0 : α) (k : Nat) (hk : 0 < k) (f : α → List Value) (R : α → Prop) (hf : ∀ x, R x → (f x).length = k) {T E : TypeId} (hT : Program.underlying Try.prog T = some (.slice E)) (hc : Program.cellsOf Try.prog E = k) {fuel : Nat} {a : Option Addr} {n cp : Nat} {x : DataW H × List MemPlace}
    (h : DataW.trod enc Try.prog W base (fun _ => true) held fuel T (Value.slice a n cp).cells.toList = some x) (each : ∀ m cs y, DataW.trod enc Try.prog W base (fun _ => true) held m E cs = some y → ∃ z, cs = f z ∧ R z) :
    ∃ zs : List α, Sl W a n cp k ((zs.map f).flatten) ∧ ∀ z ∈ zs, R z := by
  rcases DataW.trod_slice hT h with ⟨hcs, _⟩ | ⟨ad, len, cap, elems, rest, m, hfu, hcs, _, hb, hl, hm, hlen, hel, _, _⟩
  · simp [Value.cells] at hcs
    obtain ⟨rfl, rfl, rfl⟩ := hcs; exact ⟨[], Sl.nil _ _, fun z hz => by cases hz⟩
  · simp [Value.cells] at hcs
    obtain ⟨rfl, rfl, rfl⟩ := hcs; rw [hc] at hel
    have each2 : ∀ i, i < n → ∃ z : α, (∀ j v, (f z)[j]? = some v → W.cell? (ad.add (i * k + j)) = some v) ∧ R z := fun i hi => by
      have h1 := hel i hi; rw [List.getElem?_eq_getElem (by omega)] at h1; obtain ⟨cs', hcc, ht⟩ := Option.bind_eq_some_iff.1 h1; obtain ⟨z, rfl, hs⟩ := each m _ _ ht; refine ⟨z, fun j v hj => ?_, hs⟩; obtain ⟨_, hcl, hcc⟩ := World.cells?_some hcc; have hj4 : j < k := by have := (List.getElem?_eq_some_iff.1 hj).1; rwa [hf z hs] at this
      rw [← hj, ← hcc j hj4, Addr.add_add]
    have hex : ∀ i, ∃ z : α, i < n → (∀ j v, (f z)[j]? = some v → W.cell? (ad.add (i * k + j)) = some v) ∧ R z := fun i => by
      by_cases hi : i < n
      · obtain ⟨z, h1⟩ := each2 i hi
        exact ⟨z, fun _ => h1⟩
      · exact ⟨z0, fun h0 => absurd h0 hi⟩
    obtain ⟨q, hq⟩ := Classical.axiomOfChoice hex; have hql : ∀ i, i < n → (f (q i)).length = k := fun i hi => hf _ (hq i hi).2
    have e : (((List.range n).map q).map f).flatten = (List.range n).flatMap fun i => f (q i) := by
      rw [List.map_map]
      rfl
    refine ⟨(List.range n).map q, ?_, fun z hz => ?_⟩
    · rw [e]
      refine ⟨flatm_len k _ n hql, hl, hm, fun i hi => ?_, fun he => by cases he⟩; obtain ⟨v0, hv0⟩ : ∃ v0, (f (q 0))[0]? = some v0 := ⟨_, List.getElem?_eq_getElem (by rw [hql 0 (by omega)]; exact hk)⟩; have h0 := (hq 0 (by omega)).1 0 _ hv0; rw [Nat.zero_mul, Nat.zero_add, add_zero_addr] at h0; obtain ⟨ea, hlt⟩ := cell_spot h0; refine ⟨ad.block, ad.off, by rw [← ea], hlt, fun j v hj => ?_⟩
      have hjn : j < n * k := by
        have := (List.getElem?_eq_some_iff.1 hj).1
        rwa [flatm_len k _ n hql] at this
      have hdv : j / k * k + j % k = j := by rw [Nat.mul_comm]; exact Nat.div_add_mod j k
      have hjk : j / k < n := (Nat.div_lt_iff_lt_mul hk).2 hjn; have hj2 := flatm_get k (fun i => f (q i)) n hql (j / k) (j % k) hjk (Nat.mod_lt _ hk); rw [hdv] at hj2; have h1 := (hq (j / k) hjk).1 (j % k) v (hj2.symm.trans hj); rw [hdv] at h1; rw [ea, mk_add] at h1; exact h1
    · obtain ⟨i, hi, rfl⟩ := List.mem_map.1 hz
      exact (hq i (List.mem_range.1 hi)).2
theorem cut1 {l : List Value} {o : Nat} {v : Value} (h : (l.drop o).take 1 = [v]) : l.drop o = v :: l.drop (o + 1) := by
  have := List.take_append_drop 1 (l.drop o); rw [h, List.drop_drop] at this; exact this.symm
theorem cutk {l r : List Value} {o k : Nat} (h : (l.drop o).take k = r) : l.drop o = r ++ l.drop (o + k) := by
  have := List.take_append_drop k (l.drop o); rw [h, List.drop_drop] at this; exact this.symm
theorem cint : Program.cellsOf Try.prog 3 = 1 := by kernel_rfl
theorem wf_Wf {x : Int} (h : (Lit.int .i64 x).wf = true) : Wf x := by
  simp [Lit.wf, IntKind.min, IntKind.max, IntKind.signed, IntKind.bits] at h
  unfold Wf
  omega
end
end Go.Proofs.Ytpjopeojeglogaa

namespace Tt
open Go Go.RowKit
set_option linter.unusedVariables false
set_option linter.unusedSimpArgs false

section
variable {P : Program} {ops : Array Oper} {rest : List Oper} {o : Oper} {a : Act} {w0 : World} {Q : Exit → Act → World → Prop}
/-- 'append(s, x)' of one element that stands in a row made for it. -/
theorem wpList_app_lit (hgd : o.guard = none) (s x : Operand) (t : TypeId)
    (ho : o.op = .call { callee := .builtin .append, args := #[s, x], argTypes := #[t, t] })
    (base : Nat) (e : TypeId) (i : TypeInfo) (z : Value) (size bytes : Nat) (ht : P.underlying t = some (.slice e)) (hi : P.info? e = some i) (hz : i.zero = some z)
    (hsize : i.size = size) (hby : i.bytes = bytes) (hzs : z.cells.size = size) (hsz : 0 < size)
    (v : Value) (n : Nat) (xs : List Value) (hs : a.eval s = v) (hown : w0.ownsRow base e size v n xs)
    (us : Array Value) (hx : a.eval x = .slice (some ⟨w0.heap.size, 0, none⟩) 1 1) (hl : us.size = size) (h1 : ∀ u ∈ us.toList, u.oneCell' = true)
    (hbytes : (n + 1) * bytes ≤ 140737488355328) (hb0 : 0 < bytes) (W : World) (hbel : Below base W w0) (hbase : base ≤ w0.heap.size)
    (h : ∀ (a' : Option Addr) (c' : Nat) (w' : World), w'.ownsRow base e size (.slice a' (n + 1) c') (n + 1) (xs ++ us.toList) → Below base W w' → wpList P ops Q rest (a.put o.dst (.slice a' (n + 1) c')) w') : wpList P ops Q (o :: rest) a (w0.alloc (.cells us e)) :=
  wpList_app hgd s x t ho base e i z size bytes ht hi hz hsize hby hzs hsz v n xs hs (own_later hown ((Below.refl _ _).alloc (Nat.le_refl _) _)) (some ⟨w0.heap.size, 0, none⟩) 1 1 us.toList hx
    (Sl.new w0 e size 1 us (0, 0) (by decide) (by omega)) h1 hbytes hb0 (by simp; omega) fun a' c' w' h2 h3 _ => h a' c' w' h2 ((hbel.alloc hbase _).trans h3)
end
/-- the data at the beginning of some bytes, without stuffing, and how many of these it takes -/
def plainS : List Int → List Int × Nat
  | [] => ([], 0)
  | [c] => if c = 255 then ([], 0) else ([c], 1)
  | c :: d :: l => if c = 255 then (if d = 0 then (255 :: (plainS l).1, (plainS l).2 + 2) else ([], 0)) else (c :: (plainS (d :: l)).1, (plainS (d :: l)).2 + 1)
theorem drop_at {z : List Int} {k : Nat} (h : k < z.length) : z.drop k = z.getD k 0 :: z.drop (k + 1) := by
  rw [List.drop_eq_getElem_cons h]; simp [h]
theorem plainS_nil {z : List Int} {k : Nat} (h : z.length ≤ k) : plainS (z.drop k) = ([], 0) := by rw [List.drop_eq_nil_of_le h]; rfl
theorem plainS_one {z : List Int} {k : Nat} (h : k < z.length) (hc : z.getD k 0 ≠ 255) : plainS (z.drop k) = (z.getD k 0 :: (plainS (z.drop (k + 1))).1, (plainS (z.drop (k + 1))).2 + 1) := by
  rw [drop_at h]
  cases hd : z.drop (k + 1) with
  | nil => unfold plainS; rw [if_neg hc]
  | cons d l => rw [plainS, if_neg hc]
theorem plainS_end {z : List Int} {k : Nat} (h : k < z.length) (hc : z.getD k 0 = 255) (he : k + 1 = z.length ∨ z.getD (k + 1) 0 ≠ 0) : plainS (z.drop k) = ([], 0) := by
  rw [drop_at h]
  rcases Nat.lt_or_ge (k + 1) z.length with h1 | h1
  · rw [drop_at h1, plainS, if_pos hc, if_neg (by rcases he with he | he; omega; exact he)]
  · rw [List.drop_eq_nil_of_le h1, plainS, if_pos hc]
theorem plainS_two {z : List Int} {k : Nat} (h : k + 1 < z.length) (hc : z.getD k 0 = 255) (he : z.getD (k + 1) 0 = 0) : plainS (z.drop k) = (255 :: (plainS (z.drop (k + 2))).1, (plainS (z.drop (k + 2))).2 + 2) := by
  rw [drop_at (by omega : k < z.length), drop_at h, plainS, if_pos hc, if_pos he]
theorem plainS_le (n : Nat) : ∀ (z : List Int), z.length ≤ n → (plainS z).1.length ≤ (plainS z).2 ∧ (plainS z).2 ≤ z.length := by
  induction n with
  | zero => intro z h; obtain rfl := List.eq_nil_of_length_eq_zero (by omega : z.length = 0); simp [plainS]
  | succ n ih =>
    intro z h
    match z with
    | [] => simp [plainS]
    | [c] => rw [plainS]; split <;> simp
    | c :: d :: l =>
      have h1 := ih l (by simp at h ⊢; omega); have h2 := ih (d :: l) (by simp at h ⊢; omega); rw [plainS]
      split
      · split
        · simp only [List.length_cons]; omega
        · simp
      · simp only [List.length_cons] at h2 ⊢; omega
theorem plainS_byt (n : Nat) : ∀ (z : List Int), z.length ≤ n → Byt z → Byt (plainS z).1 := by
  induction n with
  | zero => intro z h hb; obtain rfl := List.eq_nil_of_length_eq_zero (by omega : z.length = 0); simpa [plainS] using hb
  | succ n ih =>
    intro z h hb
    match z with
    | [] => simpa [plainS] using hb
    | [c] =>
      rw [plainS]
      split
      · intro x hx; cases hx
      · exact hb
    | c :: d :: l =>
      have h1 := ih l (by simp at h ⊢; omega) (fun x hx => hb x (List.mem_cons_of_mem _ (List.mem_cons_of_mem _ hx))); have h2 := ih (d :: l) (by simp at h ⊢; omega) (fun x hx => hb x (List.mem_cons_of_mem _ hx)); have hc := hb c (List.mem_cons_self ..); rw [plainS]
      split
      · split
        · intro x hx
          rcases List.mem_cons.1 hx with rfl | hx
          · omega
          · exact h1 x hx
        · intro x hx; cases hx
      · intro x hx
        rcases List.mem_cons.1 hx with rfl | hx
        · exact hc
        · exact h2 x hx
/-- bit k of bytes, the highest first -/
def bitA (D : List Int) (k : Nat) : Int := D.getD (k / 8) 0 / 2 ^ (7 - k % 8) % 2
theorem bitA_range (D : List Int) (k : Nat) : 0 ≤ bitA D k ∧ bitA D k < 2 := by unfold bitA; omega
/-- the number that n bits from bit i on are -/
def numA (D : List Int) (i : Nat) : Nat → Int
  | 0 => 0
  | n + 1 => numA D i n * 2 + bitA D (i + n)
theorem numA_bound (D : List Int) (i : Nat) : ∀ n, 0 ≤ numA D i n ∧ numA D i n < 2 ^ n
  | 0 => by simp [numA]
  | n + 1 => by
    have h := numA_bound D i n; have h2 := bitA_range D (i + n); rw [numA, Int.pow_succ]
    omega
theorem or_bit {N B : Int} (h0 : 0 ≤ N) (h1 : N < 36028797018963968) (h2 : 0 ≤ B) (h3 : B < 2) : bits .or .i64 (N * 2) B = N * 2 + B := by
  obtain ⟨a, rfl⟩ : ∃ a : Nat, N = a := ⟨N.toNat, by omega⟩; obtain ⟨b, rfl⟩ : ∃ b : Nat, B = b := ⟨B.toNat, by omega⟩; have h := or_i64 (a * 2) b (by omega) (by omega); have h4 := Nat.two_pow_add_eq_or_of_lt (i := 1) (b := b) (by omega) a; have h5 : (2 ^ 1 * a : Nat) = a * 2 := by omega
  rw [h5] at h4; rw [← h4] at h; rw [show ((a * 2 : Nat) : Int) = (a : Int) * 2 by omega, show ((a * 2 + b : Nat) : Int) = (a : Int) * 2 + b by omega] at h; exact h
theorem and1_u8 {x : Int} (h0 : 0 ≤ x) (h1 : x < 256) : bits .and .u8 x 1 = x % 2 := by
  have h : ∀ n : Fin 256, bits .and .u8 ((n.val : Nat) : Int) 1 = ((n.val : Nat) : Int) % 2 := by decide +kernel
  have := h ⟨x.toNat, by omega⟩; simp only at this; rw [show ((x.toNat : Nat) : Int) = x by omega] at this; exact this
theorem div_byte {x : Int} (h0 : 0 ≤ x) (h1 : x < 256) (e : Nat) : 0 ≤ x / 2 ^ e ∧ x / 2 ^ e < 256 := by
  have hp : (0 : Int) < 2 ^ e := Int.pow_pos (by decide); exact ⟨Int.ediv_nonneg h0 (Int.le_of_lt hp), Int.lt_of_le_of_lt (Int.ediv_le_self _ h0) h1⟩
/-- one bit more of a number, as the program takes it -/
theorem numA_step {D : List Int} (hD : Byt D) (i j : Nat) (hj : j ≤ 16) : bits .or .i64 (wrap64 (numA D i j * 2)) (wrap64 (bits .and .u8 (D[(i + j) / 8]?.getD 0 / 2 ^ (7 - (i + j) % 8)) 1)) = numA D i (j + 1) := by
  have h := numA_bound D i j; have hp : (2 : Int) ^ j ≤ 2 ^ 16 := by exact_mod_cast Nat.pow_le_pow_right (by decide : 0 < 2) hj
  have hg := hD.get ((i + j) / 8); rw [List.getD_eq_getElem?_getD] at hg; have hd := div_byte hg.1 hg.2 (7 - (i + j) % 8); rw [and1_u8 hd.1 hd.2]; have hb := bitA_range D (i + j); have he : D[(i + j) / 8]?.getD 0 / 2 ^ (7 - (i + j) % 8) % 2 = bitA D (i + j) := by unfold bitA; rw [List.getD_eq_getElem?_getD]
  rw [he, show wrap64 (numA D i j * 2) = numA D i j * 2 by unfold wrap64; omega, show wrap64 (bitA D (i + j)) = bitA D (i + j) by unfold wrap64; omega, or_bit h.1 (by omega) hb.1 hb.2, numA]
/-- bytes with stuffing -/
def stuffS (l : List Int) : List Int := l.flatMap fun c => if c = 255 then [255, 0] else [c]
theorem stuffS_take {l : List Int} {k : Nat} (h : k < l.length) : stuffS (l.take (k + 1)) = stuffS (l.take k) ++ (if l.getD k 0 = 255 then [255, 0] else [l.getD k 0]) := by
  unfold stuffS; rw [take_snoc' h, List.flatMap_append]; simp
theorem stuffS_len (l : List Int) : (stuffS l).length ≤ 2 * l.length := by
  unfold stuffS
  induction l with
  | nil => simp
  | cons c l ih => rw [List.flatMap_cons, List.length_append, List.length_cons]; split <;> simp only [List.length_cons, List.length_nil] <;> omega
end Tt
