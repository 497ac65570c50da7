/- Chapter 4: whether a table may be: the document. | Chapter 14: a quantisation table's bytes: the program. | Chapter 14: quantisation tables' bytes, one behind the other: the program. -/
import Derived.Test.YtpjopeojeglogaaCd16
import Derived.Test.YtpjopeojeglogaaCd01
import Derived.Test.YtpjopeojeglogaaCd08
import Derived.Test.YtpjopeojeglogaaCd15
namespace Go.Proofs.Ytpjopeojeglogaa
open Go.RowKit Tt
set_option linter.unusedVariables false
set_option linter.unusedSimpArgs false

/-- the cells of a table in a block -/
theorem hf_cells {w : World} {g : Nat} {c : List Int} {a : Option Addr} {n cp : Nat} (hc : c.length = 16) (h : Blk w g 45 (ints .i64 c ++ [Value.slice a n cp]).toArray) :
    (∀ k x, c[k]? = some x → w.cell? ⟨g, k, none⟩ = some (.int .i64 x)) ∧ w.cell? ⟨g, 16, none⟩ = some (.slice a n cp) := by
  have hcl : (ints .i64 c).length = 16 := by rw [ints_len, hc]
  refine ⟨fun k x hx => h.cell ?_, h.cell ?_⟩
  · have hk : k < c.length := (List.getElem?_eq_some_iff.1 hx).1
    simp only [List.getElem?_toArray]; rw [List.getElem?_append_left (by omega)]; unfold ints; rw [List.getElem?_map, hx]
    rfl
  · simp only [List.getElem?_toArray]
    rw [List.getElem?_append_right (by omega), hcl]
    rfl
set_option maxRecDepth 20000 in
set_option maxHeartbeats 1000000 in
theorem rmay04_any (c s : List Int) (a : Option Addr) (n cp : Nat) (w : World) (hc : c.length = 16) (hs : Sl w a n cp 1 (ints .i64 s)) (hn : n ≤ 100000) :
    Calls Try.prog 68 #[hV c a n cp] w fun e w' => e = .returned (.bool (hMay c s)) ∧ Below w.heap.size w w' := by
  obtain ⟨m, hm⟩ : ∃ m, hMay c s = m := ⟨_, rfl⟩; rw [hm]; have hl := hs.ilen; unfold hV; obtain ⟨B, hB⟩ : ∃ B, (ints .i64 c ++ [Value.slice a n cp]).toArray = B := ⟨_, rfl⟩; have b1 := Blk.new w 45 B; have hb1 := (Below.refl w.heap.size w).alloc (Nat.le_refl _) (.cells B 45); obtain ⟨W1, hW1⟩ : ∃ W1, w.alloc (.cells B 45) = W1 := ⟨_, rfl⟩; rw [hW1] at b1 hb1; have hs1 := hs.mono hb1; obtain ⟨hC, c16⟩ := hf_cells (a := a) (n := n) (cp := cp) hc (hB ▸ b1); rw [hB]; clear hB; have hm' := Lib.hid hm; have hl' := Lib.hid hl; have hb1' := Lib.hid hb1; have b1' := Lib.hid b1; have hs' := Lib.hid hs; have hs1' := Lib.hid hs1; have hC' := Lib.hid hC; have hc' := Lib.hid hc; have hW1' := Lib.hid hW1; clear hm hl hb1 b1 hs hs1 hC hc hW1
  go_enter Try.func68, Try.ntmps68
  go_upto_region 2 with fail
  rw [hW1'.out]
  go_wp2
  go_loopw [3, 4, 5] (fun mv sv iv wr => ∃ (k : Nat) (S M : Int), k ≤ 16 ∧ iv = .int .i64 k ∧ sv = .int .i64 S ∧ mv = .int .i64 M ∧ Hid (S = kraftS c k ∧ M = manyS c k) ∧ Hid (∀ j, j < k → cntOk c j = true) ∧ Hid (Qt W1 wr)) (fun _ _ iv _ => 16 - (intOf iv).toNat)
  case atStart => exact ⟨0, 0, 0, by omega, rfl, rfl, rfl, Lib.hid ⟨rfl, rfl⟩, Lib.hid (fun j hj => by omega), Lib.hid (Qt.refl _)⟩
  case round =>
    obtain ⟨k, S, M, hk, rfl, rfl, rfl, hSM, hall, hq⟩ := hrel; obtain ⟨dq, rfl⟩ := hq.out.ex
    by_cases hlt : k < 16
    · obtain ⟨x, hx⟩ : ∃ x, c[k]? = some x := ⟨_, List.getElem?_eq_getElem (by rw [hc'.out]; exact hlt)⟩
      have hxd : c.getD k 0 = x := by rw [List.getD_eq_getElem?_getD, hx]; rfl
      have f0 := hC'.out k x hx; have hbel := hb1'.out.trans (Qt.below ⟨dq, rfl⟩ (B := w.heap.size) (b := W1.drewN dq))
      by_cases h1 : x < 0
      · obtain rfl : m = false := by rw [← hm'.out]; exact hMay_cnt hlt (by unfold cntOk; rw [hxd]; simp; omega)
        have hx' := Lib.hid hx; have hxd' := Lib.hid hxd; have hbel' := Lib.hid hbel; clear hx hxd hbel
        go_wp2
        go_ret
        exact ⟨rfl, hbel'.out⟩
      by_cases h2 : 256 < x
      · obtain rfl : m = false := by rw [← hm'.out]; exact hMay_cnt hlt (by unfold cntOk; rw [hxd]; simp; omega)
        have hx' := Lib.hid hx; have hxd' := Lib.hid hxd; have hbel' := Lib.hid hbel; clear hx hxd hbel
        go_wp2
        go_ret
        exact ⟨rfl, hbel'.out⟩
      have hok : cntOk c k = true := cntOk_iff.2 (by rw [hxd]; omega)
      have hall2 : ∀ j, j < k + 1 → cntOk c j = true := fun j hj => by
        rcases Nat.lt_or_ge j k with h | h
        · exact hall.out j h
        · obtain rfl : j = k := by omega
          exact hok
      have b1 := kraft_bd k hall.out; have b2 := many_bd k hall.out; have b3 := term_bd hok; have b4 := pow_le15 k; rw [hxd] at b3; obtain ⟨e1, e2⟩ := hSM.out; rw [← e1] at b1; rw [← e2] at b2
      have hnew : S + x * 2 ^ (15 - k) = kraftS c (k + 1) ∧ M + x = manyS c (k + 1) := by
        show _ = kraftS c k + c.getD k 0 * 2 ^ (15 - k) ∧ _ = manyS c k + c.getD k 0
        rw [e1, e2, hxd]; exact ⟨rfl, rfl⟩
      clear e1 e2 hok; have hx' := Lib.hid hx; have hxd' := Lib.hid hxd; have hall2' := Lib.hid hall2; have hnew' := Lib.hid hnew; have hbel' := Lib.hid hbel; clear hx hxd hall2 hnew hbel
      go_wp2
      go_quiet (fail)
      go_wp2
      go_roundw
      case rel => exact ⟨k + 1, _, _, by omega, by go_num, rfl, rfl, hnew', hall2', Lib.hid ⟨_, rfl⟩⟩
      case measure => simp [intOf]; omega
    · have hk16 : k = 16 := by omega
      have hall := Lib.hid (show ∀ j, j < 16 → cntOk c j = true from fun j hj => hall.out j (by omega)); have hSM := Lib.hid (show S = kraftS c 16 ∧ M = manyS c 16 from hk16 ▸ hSM.out); have b1 := kraft_bd 16 hall.out; have b2 := many_bd 16 hall.out; obtain ⟨e1, e2⟩ := hSM.out; rw [← e1] at b1; rw [← e2] at b2
      have hend : (∀ i, i < s.length → symOk s i = true) → m = decide (M = n ∧ 1 ≤ M ∧ S < 65536) := fun h => by
        rw [← hm'.out, hMay_end hall.out h]; unfold endOk; rw [← e1, ← e2, hl'.out]
      clear e1 e2; have hend' := Lib.hid hend; have hk16' := Lib.hid hk16; clear hend hk16
      go_wp2
      go_loopw [6, 7] (fun iv _ wr => ∃ k : Nat, k ≤ n ∧ iv = .int .i64 k ∧ Hid (∀ j, j < k → symOk s j = true) ∧ Hid (Qt W1 wr)) (fun iv _ _ => n - (intOf iv).toNat)
      case atStart => exact ⟨0, by omega, rfl, Lib.hid (fun j hj => by omega), hq⟩
      case round =>
        obtain ⟨k, hk, rfl, hall, hq⟩ := hrel; obtain ⟨dq, rfl⟩ := hq.out.ex; have hbel := hb1'.out.trans (Qt.below ⟨dq, rfl⟩ (B := w.heap.size) (b := W1.drewN dq))
        by_cases hlt : k < n
        · have hkl : k < s.length := by rw [hl'.out]; exact hlt
          obtain ⟨x, hx⟩ : ∃ x, s[k]? = some x := ⟨_, List.getElem?_eq_getElem hkl⟩; have hxd : s.getD k 0 = x := by rw [List.getD_eq_getElem?_getD, hx]; rfl
          obtain ⟨bb, o, rfl, hbb, f⟩ := hs1'.out.at hlt; have f0 : W1.cell? ⟨bb, o + k, none⟩ = some (.int .i64 x) := f k _ (by show (ints .i64 s)[k]? = _; rw [ints_get hkl, hxd]); have hso : symOk s k = (decide (0 ≤ x ∧ x ≤ 255) && !(s.take k).contains x) := by unfold symOk; rw [hxd]
          by_cases h1 : x < 0
          · obtain rfl : m = false := by rw [← hm'.out]; exact hMay_sym hkl (by rw [hso]; simp; omega)
            clear f; have hx' := Lib.hid hx; have hxd' := Lib.hid hxd; have hso' := Lib.hid hso; have hbel' := Lib.hid hbel; clear hx hxd hso hbel
            go_wp2
            go_ret
            exact ⟨rfl, hbel'.out⟩
          by_cases h2 : 255 < x
          · obtain rfl : m = false := by rw [← hm'.out]; exact hMay_sym hkl (by rw [hso]; simp; omega)
            clear f; have hx' := Lib.hid hx; have hxd' := Lib.hid hxd; have hso' := Lib.hid hso; have hbel' := Lib.hid hbel; clear hx hxd hso hbel
            go_wp2
            go_ret
            exact ⟨rfl, hbel'.out⟩
          have f' := Lib.hid f; have hx' := Lib.hid hx; have hxd' := Lib.hid hxd; have hso' := Lib.hid hso; clear f hx hxd hso; clear hbel
          go_wp2
          go_loopw [7] (fun jv wr => ∃ j : Nat, j ≤ k ∧ jv = .int .i64 j ∧ Hid (∀ i, i < j → s.getD i 0 ≠ x) ∧ Hid (Qt W1 wr)) (fun jv _ => k - (intOf jv).toNat)
          case atStart => exact ⟨0, by omega, rfl, Lib.hid (fun j hj => by omega), hq⟩
          case round =>
            obtain ⟨j, hj, rfl, hno, hq⟩ := hrel; obtain ⟨dq, rfl⟩ := hq.out.ex; have hbel := hb1'.out.trans (Qt.below ⟨dq, rfl⟩ (B := w.heap.size) (b := W1.drewN dq))
            by_cases hjk : j < k
            · have hjl : j < s.length := by omega
              obtain ⟨y, hy⟩ : ∃ y, s[j]? = some y := ⟨_, List.getElem?_eq_getElem hjl⟩; have hyd : s.getD j 0 = y := by rw [List.getD_eq_getElem?_getD, hy]; rfl
              have f1 : W1.cell? ⟨bb, o + j, none⟩ = some (.int .i64 y) := f'.out j _ (by show (ints .i64 s)[j]? = _; rw [ints_get hjl, hyd])
              by_cases hyx : y = x
              · obtain rfl : m = false := by
                  rw [← hm'.out]; refine hMay_sym hkl ?_; rw [hso'.out]
                  have : (s.take k).contains x = true := by
                    rw [List.contains_eq_mem, decide_eq_true_iff]; exact List.mem_take_iff_getElem.2 ⟨j, by omega, by rw [List.getElem?_eq_getElem hjl] at hy; injection hy with hy; rw [hy, hyx]⟩
                  rw [this]
                  simp
                subst hyx; have hy' := Lib.hid hy; have hyd' := Lib.hid hyd; have hbel' := Lib.hid hbel; clear hy hyd hbel
                go_wp2
                go_quiet (fail)
                go_wp2
                go_ret
                exact ⟨rfl, hbel'.out.trans (Qt.below ⟨_, rfl⟩ _)⟩
              · have hno2 : ∀ i, i < j + 1 → s.getD i 0 ≠ x := fun i hi => by
                  rcases Nat.lt_or_ge i j with h | h
                  · exact hno.out i h
                  · obtain rfl : i = j := by omega
                    rw [hyd]; exact hyx
                have hyb : (y == x) = false := by simpa using hyx
                clear hyx; have hy' := Lib.hid hy; have hyd' := Lib.hid hyd; have hbel' := Lib.hid hbel; have hno2' := Lib.hid hno2; clear hy hyd hbel hno2
                go_wp2
                go_quiet (fail)
                go_wp2
                go_roundw
                case rel => exact ⟨j + 1, by omega, by go_num, hno2', Lib.hid ⟨_, rfl⟩⟩
                case measure => simp [intOf]; omega
            · obtain rfl : j = k := by omega
              have hok : symOk s j = true := by
                rw [hso'.out]
                have : (s.take j).contains x = false := by
                  rw [List.contains_eq_mem, decide_eq_false_iff_not]; intro hm; obtain ⟨i, hi, he⟩ := List.mem_take_iff_getElem.1 hm; refine hno.out i (by omega) ?_; rw [List.getD_eq_getElem?_getD, List.getElem?_eq_getElem (by omega)]; exact he
                rw [this]
                simp
                omega
              have hall2 : ∀ i, i < j + 1 → symOk s i = true := fun i hi => by
                rcases Nat.lt_or_ge i j with h | h
                · exact hall.out i h
                · obtain rfl : i = j := by omega
                  exact hok
              have hok' := Lib.hid hok; have hall2' := Lib.hid hall2; have hbel' := Lib.hid hbel; clear hok hall2 hbel
              go_wp2
              go_roundw
              case rel => exact ⟨j + 1, by omega, by go_num, hall2', hq⟩
              case measure => simp [intOf]; omega
        · obtain rfl : k = n := by omega
          have hmd := hend'.out (by rw [hl'.out]; exact hall.out)
          by_cases h1 : M = k
          · by_cases h2 : 1 ≤ M
            · by_cases h3 : S < 65536
              · obtain rfl : m = true := by rw [hmd]; simp; omega
                subst h1; have hbel' := Lib.hid hbel; clear hbel; clear hmd
                go_wp2
                go_ret
                exact ⟨rfl, hbel'.out⟩
              · obtain rfl : m = false := by rw [hmd]; simp; omega
                subst h1; have hbel' := Lib.hid hbel; clear hbel; clear hmd
                go_wp2
                go_ret
                exact ⟨rfl, hbel'.out⟩
            · obtain rfl : m = false := by rw [hmd]; simp; omega
              subst h1; have hbel' := Lib.hid hbel; clear hbel; clear hmd
              go_wp2
              go_ret
              exact ⟨rfl, hbel'.out⟩
          · obtain rfl : m = false := by rw [hmd]; simp; omega
            have hbel' := Lib.hid hbel; clear hbel; clear hmd
            go_wp2
            go_ret
            exact ⟨rfl, hbel'.out⟩
end Go.Proofs.Ytpjopeojeglogaa

namespace Go.Proofs.Ytpjopeojeglogaa
open Go.RowKit Tt
set_option linter.unusedVariables false
set_option linter.unusedSimpArgs false

/-- a table's cells -/
def qC (q : Qt64) : List Value := .int .i64 q.1 :: ints .i64 q.2
theorem qC_len {q : Qt64} (h : q.2.length = 64) : (qC q).length = 65 := by simp [qC, ints_len, h]
/-- a block that holds a table -/
structure QB (w : World) (g : Nat) (q : Qt64) : Prop where
  len : q.2.length = 64
  blk : Blk w g 172 (qC q).toArray
theorem QB.c0 {w : World} {g : Nat} {q : Qt64} (h : QB w g q) : w.cell? ⟨g, 0, none⟩ = some (.int .i64 q.1) := h.blk.cell rfl
theorem QB.cs {w : World} {g : Nat} {q : Qt64} (h : QB w g q) : ∀ j v, (ints .i64 q.2)[j]? = some v → w.cell? ⟨g, 1 + j, none⟩ = some v := fun j v hv => h.blk.cell (by
  rw [List.getElem?_toArray, Nat.add_comm]; exact hv)
theorem QB.late {w w' : World} {g : Nat} {q : Qt64} (h : QB w g q) (hb : Below w.heap.size w w') : QB w' g q := ⟨h.len, h.blk.late hb⟩
theorem infoB64 : (Try.prog.info? 129).map (·.size) = some 64 := by kernel_rfl
/-- the bytes of numbers -/
def mB (l : List Int) : List Int := l.map fun x => x % 256
theorem mB_same {l : List Int} (h : ∀ x ∈ l, 0 ≤ x ∧ x < 256) : mB l = l := by
  unfold mB
  conv => rhs; rw [← List.map_id l]
  exact List.map_congr_left fun x hx => by have := h x hx; show x % 256 = x; omega
theorem mB_snoc {l : List Int} {k : Nat} {x : Int} (h : l[k]? = some x) : mB (l.take (k + 1)) = mB (l.take k) ++ [x % 256] := by
  unfold mB; rw [List.take_add_one, h]
  simp
theorem below_one (e x : Int) : belowS e [x] = decide (0 ≤ x ∧ x < e) := by unfold belowS; simp
theorem infoN16 : (Try.prog.info? 43).map (·.size) = some 16 := by kernel_rfl
end Go.Proofs.Ytpjopeojeglogaa

namespace Go.Proofs.Ytpjopeojeglogaa
open Go.RowKit Tt
set_option linter.unusedVariables false
set_option linter.unusedSimpArgs false

/-- a row of tables that is read -/
structure QsR (w : World) (a : Option Addr) (n c : Nat) (qs : List Qt64) : Prop where
  sl : Sl w a n c 65 ((qs.map qC).flatten)
  len : ∀ q ∈ qs, q.2.length = 64
theorem QsR.ilen {w : World} {a : Option Addr} {n c : Nat} {qs : List Qt64} (h : QsR w a n c qs) : qs.length = n := by
  have h1 := h.sl.len; rw [flat_len qC 65 qs (fun q hq => qC_len (h.len q hq))] at h1; exact Nat.eq_of_mul_eq_mul_right (by omega) h1
theorem QsR.elem {w : World} {a : Option Addr} {n c : Nat} {qs : List Qt64} (h : QsR w a n c qs) {k : Nat} {q : Qt64} (hq : qs[k]? = some q) : ∃ b o, a = some ⟨b, o, none⟩ ∧ b < w.heap.size ∧ ∀ j v, (qC q)[j]? = some v → w.cell? ⟨b, o + k * 65 + j, none⟩ = some v := by
  have hk : k < n := by rw [← h.ilen]; exact (List.getElem?_eq_some_iff.1 hq).1
  obtain ⟨b, o, e, hb, _, hc⟩ := h.sl.elem hk; rw [flat_elem qC 65 qs (fun q hq => qC_len (h.len q hq)) k q hq] at hc; exact ⟨b, o, e, hb, hc⟩
theorem infoQ : (Try.prog.info? 172).map (·.size) = some 65 := by kernel_rfl
theorem qC_one {q : Qt64} : (qC q).toArray.all (·.oneCell') = true := by
  rw [Array.all_eq_true_iff_forall_mem]; intro x hx; have hx : x ∈ qC q := by simpa using hx
  rcases List.mem_cons.1 hx with rfl | hx
  · rfl
  · exact ints_one x hx
theorem zeroQ : Try.zeroCells172.size = 65 := by kernel_rfl
def flatW {α : Type} (f : α → List Int) (l : List α) (k : Nat) : List Int := ((l.take k).map f).flatten
theorem flatW_snoc {α : Type} {f : α → List Int} {l : List α} {k : Nat} {x : α} (h : l[k]? = some x) : flatW f l (k + 1) = flatW f l k ++ f x := by
  unfold flatW; rw [List.take_add_one, h]
  simp
theorem allW_no {α : Type} {ok : α → Bool} {f : α → List Int} {l : List α} {k : Nat} {x : α} (h : l[k]? = some x) (hx : ok x = false) : allW ok f l = none := by
  unfold allW; rw [if_neg]; rintro ⟨h1, _⟩; have := List.all_eq_true.1 h1 x (List.mem_of_getElem? h); rw [hx] at this
  cases this
theorem allW_yes {α : Type} {ok : α → Bool} {f : α → List Int} {l : List α} (h : ∀ (k : Nat) (x : α), l[k]? = some x → ok x = true) (h0 : l ≠ []) : allW ok f l = some (flatW f l l.length) := by
  unfold allW flatW; rw [if_pos, List.take_length]; refine ⟨List.all_eq_true.2 fun x hx => ?_, h0⟩; obtain ⟨k, hk, rfl⟩ := List.mem_iff_getElem.1 hx; exact h k _ (List.getElem?_eq_getElem hk)
/-- what payloads come out as -/
def PayR (w : World) (r : Option (List Int)) (e : Ending) (w' : World) : Prop :=
  Below w.heap.size w w' ∧ match r with
  | none => e = .returned (.tuple #[.slice none 0 0, .int .i64 1])
  | some b => ∃ a n c, e = .returned (.tuple #[.slice a n c, .int .i64 0]) ∧ w'.ownsRow w.heap.size 5 1 (.slice a n c) n (ints .u8 b)
end Go.Proofs.Ytpjopeojeglogaa
