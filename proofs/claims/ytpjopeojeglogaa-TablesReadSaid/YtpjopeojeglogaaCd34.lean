/- Chapter 14: an interval read; what is gone through; the examples. | Chapter 14: the chapter's examples. | Chapter 14: the law TablesWrite: the walk. | Chapter 14 (plain, and a guarded append onto an owned row): what is read of bytes is written as they are; of two payloads, one behind the other. -/
import Derived.Test.YtpjopeojeglogaaCd33
import Derived.Test.YtpjopeojeglogaaCd05
import Derived.Test.YtpjopeojeglogaaCd31
import Derived.Test.YtpjopeojeglogaaCd28
namespace Go.Proofs.Ytpjopeojeglogaa
open Go.RowKit Tt
set_option linter.unusedVariables false
set_option linter.unusedSimpArgs false

/-- an interval as it is read: value, error -/
def intV (z : List Int) : Int := if z.length = 2 then 256 * z.getD 0 0 + z.getD 1 0 else 0
def intE (z : List Int) : Int := if z.length < 2 then 3 else if 2 < z.length then 2 else 0
theorem get2 {z : List Int} (h : z.length = 2) : getV z 0 2 2 = intV z ∧ getB 2 0 2 2 = true := by
  match z, h with
  | [x, y], _ =>
    refine ⟨?_, by decide⟩; have hb : getB 2 0 2 2 = true := by decide
    unfold getV intV; rw [show ([x, y] : List Int).length = 2 from rfl, if_pos hb, if_pos rfl]
    show (0 * 256 + x) * 256 + y = 256 * x + y
    omega
set_option maxHeartbeats 1000000 in
theorem readint_any (a : Option Addr) (n c : Nat) (z : List Int) (w : World) (hs : Sl w a n c 1 (ints .u8 z)) (hb : Byt z) :
    Calls Try.prog 58 #[.slice a n c] w fun e w' => e = .returned (.tuple #[.int .i64 (intV z), .int .i64 (intE z)]) ∧ Below w.heap.size w w' := by
  have hl := hs.ilen; have hbe := Below.refl w.heap.size w; obtain ⟨V, hV⟩ : ∃ V, intV z = V := ⟨_, rfl⟩; obtain ⟨E, hE⟩ : ∃ E, intE z = E := ⟨_, rfl⟩; rw [hV, hE]
  by_cases h1 : n < 2
  · obtain rfl : V = 0 := by rw [← hV]; unfold intV; rw [if_neg (by omega)]
    obtain rfl : E = 3 := by rw [← hE]; unfold intE; rw [if_pos (by omega)]
    have hs' := Lib.hid hs; have hb' := Lib.hid hb; have hl' := Lib.hid hl; have hbe' := Lib.hid hbe; have hV' := Lib.hid hV; have hE' := Lib.hid hE; clear hs hb hl hbe hV hE
    go_enter Try.func58, Try.ntmps58
    go_wp2
    go_ret2
    exact ⟨rfl, hbe'.out⟩
  by_cases h2 : 2 < n
  · obtain rfl : V = 0 := by rw [← hV]; unfold intV; rw [if_neg (by omega)]
    obtain rfl : E = 2 := by rw [← hE]; unfold intE; rw [if_neg (by omega), if_pos (by omega)]
    have hs' := Lib.hid hs; have hb' := Lib.hid hb; have hl' := Lib.hid hl; have hbe' := Lib.hid hbe; have hV' := Lib.hid hV; have hE' := Lib.hid hE; clear hs hb hl hbe hV hE
    go_enter Try.func58, Try.ntmps58
    go_wp2
    go_ret2
    exact ⟨rfl, hbe'.out⟩
  obtain rfl : n = 2 := by omega
  obtain rfl : E = 0 := by rw [← hE]; unfold intE; rw [if_neg (by omega), if_neg (by omega)]
  have HG := get_any a 2 c z 0 2 2 w hs hb; obtain ⟨e1, e2⟩ := get2 hl; rw [e1, e2, hV] at HG; clear e1 e2 h1 h2; have hs' := Lib.hid hs; have hb' := Lib.hid hb; have hl' := Lib.hid hl; have hbe' := Lib.hid hbe; have hV' := Lib.hid hV; have hE' := Lib.hid hE; have HG' := Lib.hid HG; clear hs hb hl hbe hV hE HG
  go_enter Try.func58, Try.ntmps58
  go_wp2_with fail
  refine HG'.out.mono ?_; rintro e w2 ⟨rfl, hb2⟩; have hb2' := Lib.hid hb2; clear hb2
  go_wp2
  go_ret2
  exact ⟨rfl, hb2'.out⟩
/-- what is said of a table of codes without a bound on its symbols -/
structure CdB (w : World) (m : CdM) : Prop where
  len : m.1.2.2.1.length = 16
  sl : Sl w m.2.1 m.2.2.1 m.2.2.2 1 (ints .i64 m.1.2.2.2)
  wf : ∀ x ∈ m.1.2.2.2, (Lit.int .i64 x).wf = true
structure CdsB (w : World) (a : Option Addr) (n c : Nat) (ms : List CdM) : Prop where
  sl : Sl w a n c 19 ((ms.map cMC).flatten)
  ok : ∀ m ∈ ms, CdB w m
theorem CdsB.ilen {w : World} {a : Option Addr} {n c : Nat} {ms : List CdM} (h : CdsB w a n c ms) : ms.length = n := by
  have h1 := h.sl.len; rw [flat_len cMC 19 ms (fun q hq => cMC_len (h.ok q hq).len)] at h1; exact Nat.eq_of_mul_eq_mul_right (by omega) h1
theorem CdsB.elem {w : World} {a : Option Addr} {n c : Nat} {ms : List CdM} (h : CdsB w a n c ms) {k : Nat} {q : CdM} (hq : ms[k]? = some q) : ∃ b o, a = some ⟨b, o, none⟩ ∧ b < w.heap.size ∧ ∀ j v, (cMC q)[j]? = some v → w.cell? ⟨b, o + k * 19 + j, none⟩ = some v := by
  have hk : k < n := by rw [← h.ilen]; exact (List.getElem?_eq_some_iff.1 hq).1
  obtain ⟨b, o, e, hb, _, hc⟩ := h.sl.elem hk; rw [flat_elem cMC 19 ms (fun q hq => cMC_len (h.ok q hq).len) k q hq] at hc; exact ⟨b, o, e, hb, hc⟩
theorem conv8 {w : World} {a : Option Addr} {n c : Nat} {xs : List Int} (h : Sl w a n c 1 (ints .u8 xs)) : (convert 30 9 (.slice a n c)).run Try.prog w = .ok (.string (strOfNums xs)) w :=
  conv_run (P := Try.prog) h 30 5 9 Try.underlying30 Try.underlying5 Try.underlying9
end Go.Proofs.Ytpjopeojeglogaa

namespace Go.Proofs.Ytpjopeojeglogaa
open Go.RowKit Tt
set_option linter.unusedVariables false
set_option linter.unusedSimpArgs false

theorem str_list (x : List Int) (l : List UInt8) (h : (x.map fun n => UInt8.ofNat n.toNat) = l) : (strOfNums x).toList = l := by
  rw [Lib.strOfNums_toList]; exact h
theorem pay_some {w w' : World} {r : Option (List Int)} {b : List Int} {e : Ending} (h : PayR w r e w') (hr : r = some b) : ∃ a n c, e = .returned (.tuple #[.slice a n c, .int .i64 0]) ∧ Sl w' a n c 1 (ints .u8 b) ∧ Below w.heap.size w w' := by
  subst hr; obtain ⟨hb, a, n, c, rfl, ho⟩ := h; exact ⟨a, n, c, rfl, (Sl.of_own ho).1, hb⟩
theorem blk_sl {w : World} {g z n : Nat} {T : TypeId} {cs : Array Value} (h : Blk w g T cs) (hz : cs.size = n * z) (hn : n ≤ 1000) : Sl w (some ⟨g, 0, none⟩) n n z cs.toList :=
  ⟨by simpa using hz, Nat.le_refl _, by omega, fun i hi => ⟨g, 0, rfl, h.lt, fun j v hj => h.cell (by rw [Nat.zero_add]; simpa using hj)⟩, fun h => by cases h⟩
def exC : Cdr := (1, 2, [0, 1, 0, 0, 0, 0, 0, 0, 0, 0, 0, 0, 0, 0, 0, 0], [5])
theorem exC_w : allW cOk cW [exC] = some [18, 0, 1, 0, 0, 0, 0, 0, 0, 0, 0, 0, 0, 0, 0, 0, 0, 5] := by decide +kernel
def AwR (w : World) (e : Ending) (w' : World) : Prop := e = .returned (.bool true) ∧ Below w.heap.size w w'
set_option maxRecDepth 100000 in
set_option maxHeartbeats 4000000 in
theorem awake_any (w : World) : Calls Try.prog 34 #[] w (AwR w) := by
  obtain ⟨W1, hW1⟩ : ∃ W1, w.alloc (.cells #[.int .i64 1, .int .i64 2, .int .i64 1, .int .i64 0] 167) = W1 := ⟨_, rfl⟩; have hb1 := (Below.refl w.heap.size w).alloc (Nat.le_refl _) (.cells #[.int .i64 1, .int .i64 2, .int .i64 1, .int .i64 0] 167); have s1 := Sl.new w 167 4 1 #[.int .i64 1, .int .i64 2, .int .i64 1, .int .i64 0] (0, 0) (by omega) rfl; rw [hW1] at hb1 s1; have HF := frame_any 3 2 (some ⟨w.heap.size, 0, none⟩) 1 1 [(1, 2, 1, 0)] W1 ⟨s1, rfl⟩ (by omega) (fun x hx => by rw [List.mem_singleton.1 hx]; unfold CmpWf Wf; simp only; omega) (by unfold Wf; omega) (by unfold Wf; omega); rw [show (if frmE 3 2 [(1, 2, 1, 0)] = 0 then some (frmW 3 2 [(1, 2, 1, 0)]) else none) = some [8, 0, 2, 0, 3, 1, 1, 33, 0] by decide +kernel] at HF; have hW1' := Lib.hid hW1; have hb1' := Lib.hid hb1; have s1' := Lib.hid s1; have HF' := Lib.hid HF; clear hW1 hb1 s1 HF
  go_enter Try.func34, Try.ntmps34
  go_wp2_with fail
  rw [hW1'.out]; refine HF'.out.mono ?_; intro e w2 h2; obtain ⟨a2, n2, c2, rfl, s2, hb2⟩ := pay_some h2 rfl; clear h2; have hbw2 := hb1'.out.trans (hb2.mono hb1'.out.size); obtain ⟨W3, hW3⟩ : ∃ W3, w2.alloc (.cells #[.int .i64 1, .int .i64 0, .int .i64 0, .int .i64 2, .int .i64 1, .int .i64 1] 169) = W3 := ⟨_, rfl⟩; have hal3 := (Below.refl w2.heap.size w2).alloc (Nat.le_refl _) (.cells #[.int .i64 1, .int .i64 0, .int .i64 0, .int .i64 2, .int .i64 1, .int .i64 1] 169); have s3 := Sl.new w2 169 3 2 #[.int .i64 1, .int .i64 0, .int .i64 0, .int .i64 2, .int .i64 1, .int .i64 1] (0, 0) (by omega) rfl; rw [hW3] at hal3 s3; have hbw3 := hbw2.trans (hal3.mono hbw2.size); have s23 := s2.mono hal3; have HH := head_any (some ⟨w2.heap.size, 0, none⟩) 2 2 [(1, 0, 0), (2, 1, 1)] W3 ⟨s3, rfl⟩ (by omega); rw [show (if usesOk [(1, 0, 0), (2, 1, 1)] = true then some (headW [(1, 0, 0), (2, 1, 1)]) else none) = some [2, 1, 0, 2, 17, 0, 63, 0] by decide +kernel] at HH; clear s2 s3 hb2; have hbw2' := Lib.hid hbw2; have hW3' := Lib.hid hW3; have hal3' := Lib.hid hal3; have hbw3' := Lib.hid hbw3; have s23' := Lib.hid s23; have HH' := Lib.hid HH; clear hbw2 hW3 hal3 hbw3 s23 HH
  go_wp2_with fail
  rw [hW3'.out]; refine HH'.out.mono ?_; intro e w4 h4; obtain ⟨a4, n4, c4, rfl, s4, hb4⟩ := pay_some h4 rfl; clear h4; have hbw4 := hbw3'.out.trans (hb4.mono hbw3'.out.size); have s24 := s23'.out.mono hb4; obtain ⟨W5, hW5, bA, bB, hb5, z5⟩ := two_boxes w4 3 #[.int .i64 5] 165 #[.int .i64 1, .int .i64 2, .int .i64 0, .int .i64 1, .int .i64 0, .int .i64 0, .int .i64 0, .int .i64 0, .int .i64 0, .int .i64 0, .int .i64 0, .int .i64 0, .int .i64 0, .int .i64 0, .int .i64 0, .int .i64 0, .int .i64 0, .int .i64 0, .slice (some ⟨w4.heap.size, 0, none⟩) 1 1]; have hok : CdOk W5 (exC, some ⟨w4.heap.size, 0, none⟩, 1, 1) := ⟨rfl, blk_sl (z := 1) (n := 1) bA rfl (by omega), by show 1 ≤ 1000; omega, fun x hx => by rw [List.mem_singleton.1 hx]; decide⟩; have HC := coders_any (some ⟨w4.heap.size + 1, 0, none⟩) 1 1 [(exC, some ⟨w4.heap.size, 0, none⟩, 1, 1)] W5 ⟨blk_sl (z := 19) (n := 1) bB rfl (by omega), fun m hm => by rw [List.mem_singleton.1 hm]; exact hok⟩ (by omega); rw [show allW cOk cW ([(exC, some ⟨w4.heap.size, 0, none⟩, 1, 1)].map (fun m : CdM => m.1)) = some [18, 0, 1, 0, 0, 0, 0, 0, 0, 0, 0, 0, 0, 0, 0, 0, 0, 5] from exC_w] at HC; have hbw5 := hbw4.trans (hb5.mono hbw4.size); have s25 := s24.mono hb5; have s45 := s4.mono hb5; clear s4 s24 bA bB hok hb4 hb5; have hbw4' := Lib.hid hbw4; have hW5' := Lib.hid hW5; have z5' := Lib.hid z5; have hbw5' := Lib.hid hbw5; have s25' := Lib.hid s25; have s45' := Lib.hid s45; have HC' := Lib.hid HC; clear hbw4 hW5 z5 hbw5 s25 s45 HC
  go_wp2_with fail
  rw [hW5'.out]; refine HC'.out.mono ?_; intro e w6 h6; obtain ⟨a6, n6, c6, rfl, s6, hb6⟩ := pay_some h6 rfl; clear h6; have hbw6 := hbw5'.out.trans (hb6.mono hbw5'.out.size); have s26 := s25'.out.mono hb6; have s46 := s45'.out.mono hb6; have hal7 := (Below.refl w6.heap.size w6).alloc (Nat.le_refl _) (.cells #[.int .u8 1, .int .u8 2] 5); have s7 : Sl (w6.alloc (.cells #[.int .u8 1, .int .u8 2] 5)) (some ⟨w6.heap.size, 0, none⟩) 2 2 1 (ints .u8 [1, 2]) := Sl.new w6 5 1 2 #[.int .u8 1, .int .u8 2] (0, 0) (by omega) rfl; obtain ⟨W7, hW7⟩ : ∃ W7, w6.alloc (.cells #[.int .u8 1, .int .u8 2] 5) = W7 := ⟨_, rfl⟩; rw [hW7] at hal7 s7; have HI := readint_any (some ⟨w6.heap.size, 0, none⟩) 2 2 [1, 2] W7 s7 (fun x hx => by simp only [List.mem_cons, List.not_mem_nil, or_false] at hx; omega); rw [show intV [1, 2] = 258 by decide, show intE [1, 2] = 0 by decide] at HI; have hbw7 := hbw6.trans (hal7.mono hbw6.size); have s27 := s26.mono hal7; have s47 := s46.mono hal7; have s67 := s6.mono hal7; clear s6 s26 s46 s7 hal7 hb6; have hbw6' := Lib.hid hbw6; have hW7' := Lib.hid hW7; have hbw7' := Lib.hid hbw7; have s27' := Lib.hid s27; have s47' := Lib.hid s47; have s67' := Lib.hid s67; have HI' := Lib.hid HI; clear hbw6 hW7 hbw7 s27 s47 s67 HI
  go_wp2_with fail
  rw [hW7'.out]; refine HI'.out.mono ?_; rintro e w8 ⟨rfl, hb8⟩; have hbw8 := hbw7'.out.trans (hb8.mono hbw7'.out.size); have s28 := s27'.out.mono hb8; have s48 := s47'.out.mono hb8; have s68 := s67'.out.mono hb8; have hal9 := (Below.refl w8.heap.size w8).alloc (Nat.le_refl _) (.cells #[.int .u8 1] 5); have s9 : Sl (w8.alloc (.cells #[.int .u8 1] 5)) (some ⟨w8.heap.size, 0, none⟩) 1 1 1 (ints .u8 [1]) := Sl.new w8 5 1 1 #[.int .u8 1] (0, 0) (by omega) rfl; obtain ⟨W9, hW9⟩ : ∃ W9, w8.alloc (.cells #[.int .u8 1] 5) = W9 := ⟨_, rfl⟩; rw [hW9] at hal9 s9; have HJ := readint_any (some ⟨w8.heap.size, 0, none⟩) 1 1 [1] W9 s9 (fun x hx => by simp only [List.mem_cons, List.not_mem_nil, or_false] at hx; omega); rw [show intV [1] = 0 by decide, show intE [1] = 3 by decide] at HJ; have hbw9 := hbw8.trans (hal9.mono hbw8.size); have s29 := s28.mono hal9; have s49 := s48.mono hal9; have s69 := s68.mono hal9; clear s28 s48 s68 s9 hal9 hb8; have hbw8' := Lib.hid hbw8; have hW9' := Lib.hid hW9; have hbw9' := Lib.hid hbw9; have s29' := Lib.hid s29; have s49' := Lib.hid s49; have s69' := Lib.hid s69; have HJ' := Lib.hid HJ; clear hbw8 hW9 hbw9 s29 s49 s69 HJ
  go_wp2_with fail
  rw [hW9'.out]; refine HJ'.out.mono ?_; rintro e w10 ⟨rfl, hb10⟩; have hbw10 := hbw9'.out.trans (hb10.mono hbw9'.out.size); have s2x := s29'.out.mono hb10; have s4x := s49'.out.mono hb10; have s6x := s69'.out.mono hb10; have e1 := conv8 s2x; have e2 := conv8 s4x; have e3 := str_list [8, 0, 2, 0, 3, 1, 1, 33, 0] [8, 0, 2, 0, 3, 1, 1, 33, 0] (by decide); have e4 := str_list [2, 1, 0, 2, 17, 0, 63, 0] [2, 1, 0, 2, 17, 0, 63, 0] (by decide); obtain ⟨b6, o6, rfl, _, f6⟩ := s6x.at (i := 0) (by have h : (18 : Nat) = n6 := s6x.ilen; omega); have h18 : (18 : Nat) = n6 := s6x.ilen; subst h18; have k0 : w10.cell? ⟨b6, o6, none⟩ = some (.int .u8 18) := f6 0 _ rfl; have k1 : w10.cell? ⟨b6, o6 + 1, none⟩ = some (.int .u8 0) := f6 1 _ rfl; have k2 : w10.cell? ⟨b6, o6 + 2, none⟩ = some (.int .u8 1) := f6 2 _ rfl; have k17 : w10.cell? ⟨b6, o6 + 17, none⟩ = some (.int .u8 5) := f6 17 _ rfl; clear s2x s4x s6x f6 hb10; have hbw10' := Lib.hid hbw10; clear hbw10
  go_wp2_with fail
  go_ret
  exact ⟨rfl, hbw10'.out⟩
end Go.Proofs.Ytpjopeojeglogaa

namespace Go.Proofs.Ytpjopeojeglogaa
open Go.RowKit Tt
set_option linter.unusedVariables false
set_option linter.unusedSimpArgs false

theorem str_same (x : List Int) : ((strOfNums x).toList == (strOfNums x).toList) = true ∧ ((strOfNums x).toList != (strOfNums x).toList) = false := by simp
end Go.Proofs.Ytpjopeojeglogaa

namespace Tt
open Go Go.RowKit
set_option linter.unusedVariables false
section
variable {P : Program} {ops : Array Oper} {rest : List Oper} {o : Oper} {a : Act} {w : World} {Q : Exit → Act → World → Prop}
end
end Tt
namespace Go.Proofs.Ytpjopeojeglogaa
open Go.RowKit Tt
set_option linter.unusedVariables false
set_option linter.unusedSimpArgs false

theorem allW_of {α : Type} {ok : α → Bool} {f : α → List Int} {l : List α} (h : ∀ x ∈ l, ok x = true) (h0 : l ≠ []) : allW ok f l = some ((l.map f).flatten) := by
  unfold allW; rw [if_pos ⟨List.all_eq_true.2 h, h0⟩]
theorem bytes_Q {z : List Int} {n : Nat} {q : List Qt64} (h : readAll takeQ n z = (0, q)) : allW qOk qW q = some z ∧ (∀ x ∈ q, x.2.length = 64) ∧ q ≠ [] := by
  obtain ⟨h1, h2, h3⟩ := readAll_of (ok := fun q => qOk q = true ∧ q.2.length = 64) (f := qW) (fun b x k hk => takeQ_of hk) n z q h; exact ⟨by rw [allW_of (fun x hx => (h2 x hx).1) h1, h3], fun x hx => (h2 x hx).2, h1⟩
theorem bytes_C {z : List Int} {n : Nat} {q : List Cdr} (h : readAll takeC n z = (0, q)) : allW cOk cW q = some z ∧ (∀ x ∈ q, x.2.2.1.length = 16) ∧ q ≠ [] := by
  obtain ⟨h1, h2, h3⟩ := readAll_of (ok := fun q => cOk q = true ∧ q.2.2.1.length = 16) (f := cW) (fun b x k hk => takeC_of hk) n z q h; exact ⟨by rw [allW_of (fun x hx => (h2 x hx).1) h1, h3], fun x hx => (h2 x hx).2, h1⟩
end Go.Proofs.Ytpjopeojeglogaa
