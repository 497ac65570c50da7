/- Chapter 14: may a table of codes be told: the document. | Chapter 14: a frame's bytes, a head's: the document. | Chapter 14: an interval read; what is gone through; the examples. -/
import Derived.Test.YtpjopeojeglogaaCc29
import Derived.Test.YtpjopeojeglogaaCc07
namespace Go.Proofs.Ytpjopeojeglogaa
open Go.RowKit Tt
set_option linter.unusedVariables false
set_option linter.unusedSimpArgs false

theorem cOk_byt {c : Cdr} (h : cOk c = true) (hl : c.2.2.1.length = 16) : (0 ≤ c.1 ∧ c.1 ≤ 1) ∧ (0 ≤ c.2.1 ∧ c.2.1 ≤ 3) ∧ (∀ x ∈ c.2.2.1, 0 ≤ x ∧ x ≤ 255) ∧ (∀ x ∈ c.2.2.2, 0 ≤ x ∧ x ≤ 255) := by
  rw [cOk_split] at h; simp only [Bool.and_eq_true, decide_eq_true_eq] at h; obtain ⟨h1, h2, h3, h4⟩ := h; refine ⟨by omega, by omega, fun x hx => ⟨(cnt_nonneg h3 hl x hx).1, ?_⟩, sym_byt h3⟩; have := List.all_eq_true.1 h4 x hx
  rwa [decide_eq_true_eq] at this
end Go.Proofs.Ytpjopeojeglogaa

namespace Go.Proofs.Ytpjopeojeglogaa
open Go.RowKit Tt
set_option linter.unusedVariables false
set_option linter.unusedSimpArgs false

theorem id_byt {s : List Int} (h : idOk s = true) : ∀ x ∈ s, 0 ≤ x ∧ x ≤ 255 := fun x hx => by
  have q2 : (List.range s.length).all (symOk s) = true := by
    unfold idOk at h; simp only [Bool.and_eq_true] at h; exact h.1
  have q3 := ((sym_all _).1 q2).1; unfold belowS at q3; have q4 := List.all_eq_true.1 q3 x hx; rw [decide_eq_true_eq] at q4
  omega
theorem frm_byt {fw fh : Int} {l : List Cmp4} (h : frmE fw fh l = 0) (j : Nat) (x : Cmp4) (hx : l[j]? = some x) : 0 ≤ x.1 ∧ x.1 ≤ 255 ∧ 1 ≤ x.2.1 ∧ x.2.1 ≤ 4 ∧ 1 ≤ x.2.2.1 ∧ x.2.2.1 ≤ 4 ∧ 0 ≤ x.2.2.2 ∧ x.2.2.2 ≤ 3 := by
  obtain ⟨h1, h2, _⟩ := frmE_ok h; have hm := List.mem_of_getElem? hx; have q1 := List.all_eq_true.1 h1 x hm; unfold cmpOk at q1; rw [decide_eq_true_eq] at q1; have q4 := id_byt h2 x.1 (List.mem_map_of_mem hm)
  omega
end Go.Proofs.Ytpjopeojeglogaa

namespace Go.Proofs.Ytpjopeojeglogaa
open Go.RowKit Tt
set_option linter.unusedVariables false
set_option linter.unusedSimpArgs false

/-- an interval as it is read: value, error -/
def intV (z : List Int) : Int := if z.length = 2 then 256 * z.getD 0 0 + z.getD 1 0 else 0
def intE (z : List Int) : Int := if z.length < 2 then 3 else if 2 < z.length then 2 else 0
theorem get2 {z : List Int} (h : z.length = 2) : getV z 0 2 2 = intV z ∧ getB 2 0 2 2 = true := by
  match z, h with
  | [x, y], _ =>
    refine ⟨?_, by decide⟩; have hb : getB 2 0 2 2 = true := by decide
    unfold getV intV; rw [show ([x, y] : List Int).length = 2 from rfl, if_pos hb, if_pos rfl]
    show (0 * 256 + x) * 256 + y = 256 * x + y
    omega
set_option maxHeartbeats 1000000 in
theorem readint_any (a : Option Addr) (n c : Nat) (z : List Int) (w : World) (hs : Sl w a n c 1 (ints .u8 z)) (hb : Byt z) :
    Calls Try.prog 58 #[.slice a n c] w fun e w' => e = .returned (.tuple #[.int .i64 (intV z), .int .i64 (intE z)]) ∧ Below w.heap.size w w' := by
  have hl := hs.ilen; have hbe := Below.refl w.heap.size w; obtain ⟨V, hV⟩ : ∃ V, intV z = V := ⟨_, rfl⟩; obtain ⟨E, hE⟩ : ∃ E, intE z = E := ⟨_, rfl⟩; rw [hV, hE]
  by_cases h1 : n < 2
  · obtain rfl : V = 0 := by rw [← hV]; unfold intV; rw [if_neg (by omega)]
    obtain rfl : E = 3 := by rw [← hE]; unfold intE; rw [if_pos (by omega)]
    have hs' := Lib.hid hs; have hb' := Lib.hid hb; have hl' := Lib.hid hl; have hbe' := Lib.hid hbe; have hV' := Lib.hid hV; have hE' := Lib.hid hE; clear hs hb hl hbe hV hE
    go_enter Try.func58, Try.ntmps58
    go_wp2
    go_ret2
    exact ⟨rfl, hbe'.out⟩
  by_cases h2 : 2 < n
  · obtain rfl : V = 0 := by rw [← hV]; unfold intV; rw [if_neg (by omega)]
    obtain rfl : E = 2 := by rw [← hE]; unfold intE; rw [if_neg (by omega), if_pos (by omega)]
    have hs' := Lib.hid hs; have hb' := Lib.hid hb; have hl' := Lib.hid hl; have hbe' := Lib.hid hbe; have hV' := Lib.hid hV; have hE' := Lib.hid hE; clear hs hb hl hbe hV hE
    go_enter Try.func58, Try.ntmps58
    go_wp2
    go_ret2
    exact ⟨rfl, hbe'.out⟩
  obtain rfl : n = 2 := by omega
  obtain rfl : E = 0 := by rw [← hE]; unfold intE; rw [if_neg (by omega), if_neg (by omega)]
  have HG := get_any a 2 c z 0 2 2 w hs hb; obtain ⟨e1, e2⟩ := get2 hl; rw [e1, e2, hV] at HG; clear e1 e2 h1 h2; have hs' := Lib.hid hs; have hb' := Lib.hid hb; have hl' := Lib.hid hl; have hbe' := Lib.hid hbe; have hV' := Lib.hid hV; have hE' := Lib.hid hE; have HG' := Lib.hid HG; clear hs hb hl hbe hV hE HG
  go_enter Try.func58, Try.ntmps58
  go_wp2_with fail
  refine HG'.out.mono ?_; rintro e w2 ⟨rfl, hb2⟩; have hb2' := Lib.hid hb2; clear hb2
  go_wp2
  go_ret2
  exact ⟨rfl, hb2'.out⟩
/-- what is said of a table of codes without a bound on its symbols -/
structure CdB (w : World) (m : CdM) : Prop where
  len : m.1.2.2.1.length = 16
  sl : Sl w m.2.1 m.2.2.1 m.2.2.2 1 (ints .i64 m.1.2.2.2)
  wf : ∀ x ∈ m.1.2.2.2, (Lit.int .i64 x).wf = true
structure CdsB (w : World) (a : Option Addr) (n c : Nat) (ms : List CdM) : Prop where
  sl : Sl w a n c 19 ((ms.map cMC).flatten)
  ok : ∀ m ∈ ms, CdB w m
theorem CdsB.to {w : World} {a : Option Addr} {n c : Nat} {ms : List CdM} (h : CdsB w a n c ms) (hf : ∀ m ∈ ms, m.2.2.1 ≤ 300) : CdsR w a n c ms :=
  ⟨h.sl, fun m hm => ⟨(h.ok m hm).len, (h.ok m hm).sl, by have := hf m hm; omega, (h.ok m hm).wf⟩⟩
theorem CdsB.ilen {w : World} {a : Option Addr} {n c : Nat} {ms : List CdM} (h : CdsB w a n c ms) : ms.length = n := by
  have h1 := h.sl.len; rw [flat_len cMC 19 ms (fun q hq => cMC_len (h.ok q hq).len)] at h1; exact Nat.eq_of_mul_eq_mul_right (by omega) h1
theorem CdsB.elem {w : World} {a : Option Addr} {n c : Nat} {ms : List CdM} (h : CdsB w a n c ms) {k : Nat} {q : CdM} (hq : ms[k]? = some q) : ∃ b o, a = some ⟨b, o, none⟩ ∧ b < w.heap.size ∧ ∀ j v, (cMC q)[j]? = some v → w.cell? ⟨b, o + k * 19 + j, none⟩ = some v := by
  have hk : k < n := by rw [← h.ilen]; exact (List.getElem?_eq_some_iff.1 hq).1
  obtain ⟨b, o, e, hb, _, hc⟩ := h.sl.elem hk; rw [flat_elem cMC 19 ms (fun q hq => cMC_len (h.ok q hq).len) k q hq] at hc; exact ⟨b, o, e, hb, hc⟩
/-- what the program hands back, as a slice and a number -/
theorem pay_sl {w w' : World} {r : Option (List Int)} {e : Ending} (h : PayR w r e w') : ∃ a n c, e = .returned (.tuple #[.slice a n c, .int .i64 (if r.isSome = true then 0 else 1)]) ∧ Sl w' a n c 1 (ints .u8 (r.getD [])) ∧ Below w.heap.size w w' := by
  obtain ⟨hb, h⟩ := h
  cases r with
  | none => exact ⟨none, 0, 0, h, Sl.nil _ _, hb⟩
  | some b =>
    obtain ⟨a, n, c, rfl, ho⟩ := h; exact ⟨a, n, c, rfl, (Sl.of_own ho).1, hb⟩
theorem conv8 {w : World} {a : Option Addr} {n c : Nat} {xs : List Int} (h : Sl w a n c 1 (ints .u8 xs)) : (convert 30 9 (.slice a n c)).run Try.prog w = .ok (.string (strOfNums xs)) w :=
  conv_run (P := Try.prog) h 30 5 9 Try.underlying30 Try.underlying5 Try.underlying9
end Go.Proofs.Ytpjopeojeglogaa
