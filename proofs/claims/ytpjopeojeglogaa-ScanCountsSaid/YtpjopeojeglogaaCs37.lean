/- Chapter 12 (plain): writing block by block, as the document does, is writing unit by unit. | Chapter 12, the document's side: what Write keeps in memory. | Chapter 12, the document's side: Whole. | Chapter 12: the law's many; the document's Own. | Chapter 12: the law ScanWrites. -/
import Derived.Test.YtpjopeojeglogaaCs35
import Derived.Test.YtpjopeojeglogaaCs19
import Derived.Test.YtpjopeojeglogaaCs06
import Derived.Test.YtpjopeojeglogaaCs07
import Derived.Test.YtpjopeojeglogaaCs29
import Derived.Test.YtpjopeojeglogaaCs27
import Derived.Test.YtpjopeojeglogaaCs05
import Derived.Test.YtpjopeojeglogaaCs34
import Derived.Test.YtpjopeojeglogaaCs36
import Derived.Test.YtpjopeojeglogaaCs08
import Derived.Test.YtpjopeojeglogaaCs17
import Derived.Test.YtpjopeojeglogaaCs33
import Derived.Test.YtpjopeojeglogaaCs18
import Derived.Test.YtpjopeojeglogaaCs30
namespace Go.Proofs.Ytpjopeojeglogaa
open Go.RowKit Tt
set_option linter.unusedVariables false
set_option linter.unusedSimpArgs false

section
variable {T : Type} {put : T → Nat → Cod → Except Int T} {again : T → Nat → T} {s : ScT} {bs : List (List (List Int))} {t0 : T}
def begT (again : T → Nat → T) (s : ScT) (st : T × List Int) (n : Nat) : T × List Int := if resS s.iv n then (again st.1 n, List.replicate s.ps.length 0) else st
def foldT (put : T → Nat → Cod → Except Int T) (again : T → Nat → T) (s : ScT) (bs : List (List (List Int))) (t0 : T) (n : Nat) : Except Int (T × List Int) := (List.range n).foldlM (stepU put again s bs) (t0, List.replicate s.ps.length 0)
/-- so far before the block k; its unit has been begun -/
def TlIn (put : T → Nat → Cod → Except Int T) (again : T → Nat → T) (s : ScT) (bs : List (List (List Int))) (t0 : T) (U k : Nat) (st : T × List Int) : Prop :=
  ∃ n j st0, j < U ∧ k = n * U + j ∧ foldT put again s bs t0 n = .ok st0 ∧ ((unitS s.ax.toNat s.ps n).take j).foldlM (stepB put bs) (begT again s st0 n) = .ok st
def TlAt (put : T → Nat → Cod → Except Int T) (again : T → Nat → T) (s : ScT) (bs : List (List (List Int))) (t0 : T) (U k : Nat) (st : T × List Int) : Prop :=
  (k = 0 ∧ st = (t0, List.replicate s.ps.length 0)) ∨ ∃ n j st0, j < U ∧ k = n * U + j + 1 ∧ foldT put again s bs t0 n = .ok st0 ∧ ((unitS s.ax.toNat s.ps n).take (j + 1)).foldlM (stepB put bs) (begT again s st0 n) = .ok st
theorem foldT_succ {n : Nat} {st : T × List Int} (h : foldT put again s bs t0 n = .ok st) : foldT put again s bs t0 (n + 1) = stepU put again s bs st n := by
  unfold foldT at h ⊢; rw [List.range_succ, List.foldlM_append, h]
  show ([n].foldlM (stepU put again s bs) st) = _
  rw [List.foldlM_cons]
  show (stepU put again s bs st n).bind _ = _
  cases stepU put again s bs st n <;> rfl
theorem TlAt.new {U k : Nat} {st : T × List Int} (h : TlAt put again s bs t0 U k st) (hU : unitN s.ps = U) (hU0 : 0 < U) (hk : k % U = 0) : foldT put again s bs t0 (k / U) = .ok st := by
  rcases h with ⟨rfl, rfl⟩ | ⟨n, j, st0, hj, hk2, h1, h2⟩
  · rw [Nat.zero_div]; rfl
  · have hj1 : j + 1 = U := by
      rcases Nat.lt_or_ge (j + 1) U with h | h
      · rw [hk2, Nat.add_assoc, (quo_add h).2] at hk; omega
      · omega
    have e : k / U = n + 1 := by
      rw [hk2, Nat.add_assoc, hj1, show n * U + U = (n + 1) * U by rw [Nat.succ_mul], Nat.mul_div_cancel _ (by omega)]
    rw [e, foldT_succ h1]; rw [List.take_of_length_le (by rw [unitS_many, hU]; omega)] at h2; exact h2
theorem TlAt.begin {U k : Nat} {st : T × List Int} (h : TlAt put again s bs t0 U k st) (hU : unitN s.ps = U) (hU0 : 0 < U) (hk : k % U = 0) : TlIn put again s bs t0 U k (begT again s st (k / U)) :=
  ⟨k / U, 0, st, hU0, by have := Nat.div_add_mod k U; rw [Nat.mul_comm]; omega, h.new hU hU0 hk, rfl⟩
theorem TlAt.mid {U k : Nat} {st : T × List Int} (h : TlAt put again s bs t0 U k st) (hk : k % U ≠ 0) : TlIn put again s bs t0 U k st := by
  rcases h with ⟨rfl, rfl⟩ | ⟨n, j, st0, hj, hk2, h1, h2⟩
  · simp at hk
  · have hj1 : j + 1 < U := by
      rcases Nat.lt_or_ge (j + 1) U with h | h
      · exact h
      · obtain rfl : U = j + 1 := by omega
        rw [hk2, show n * (j + 1) + j + 1 = (n + 1) * (j + 1) by rw [Nat.succ_mul]; omega, Nat.mul_mod_left] at hk; exact absurd rfl hk
    exact ⟨n, j + 1, st0, hj1, by omega, h1, h2⟩
theorem TlAt.stay {U k n r : Nat} {st : T × List Int} (h : TlAt put again s bs t0 U k st) (hU : unitN s.ps = U) (hU0 : 0 < U) (hn : k / U = n) (hr : k % U = r) (hT : (decide (r = 0) && resS s.iv n) = false) : TlIn put again s bs t0 U k st := by
  by_cases hr0 : r = 0
  · have h1 := h.begin hU hU0 (by omega)
    rw [hn] at h1; unfold begT at h1; rw [if_neg (by rw [hr0] at hT; simpa using hT)] at h1; exact h1
  · exact h.mid (by omega)
theorem TlAt.turn {U k n r : Nat} {st : T × List Int} (h : TlAt put again s bs t0 U k st) (hU : unitN s.ps = U) (hU0 : 0 < U) (hn : k / U = n) (hr : k % U = r) (hT : (decide (r = 0) && resS s.iv n) = true) : TlIn put again s bs t0 U k (again st.1 n, List.replicate s.ps.length 0) := by
  rw [Bool.and_eq_true, decide_eq_true_eq] at hT; have h1 := h.begin hU hU0 (by omega); rw [hn] at h1; unfold begT at h1; rw [if_pos hT.2] at h1; exact h1
theorem TlIn.ok {U k : Nat} {st st2 : T × List Int} (h : TlIn put again s bs t0 U k st) {x : Nat × Nat} (hx : (unitS s.ax.toNat s.ps (k / U))[k % U]? = some x) (he : stepB put bs st x = .ok st2) : TlAt put again s bs t0 U (k + 1) st2 := by
  obtain ⟨n, j, st0, hj, rfl, h1, h2⟩ := h; rw [(quo_add hj).1, (quo_add hj).2] at hx; refine .inr ⟨n, j, st0, hj, rfl, h1, ?_⟩; rw [ex_snoc hx, h2]; exact he
theorem TlIn.err {U k N : Nat} {st : T × List Int} (h : TlIn put again s bs t0 U k st) (hN : (s.ax * s.dn).toNat = N) (hk : k < N * U) {x : Nat × Nat} (hx : (unitS s.ax.toNat s.ps (k / U))[k % U]? = some x) {e : Int} (he : stepB put bs st x = .error e) : tellS put again s bs t0 = .error e := by
  obtain ⟨n, j, st0, hj, rfl, h1, h2⟩ := h; rw [(quo_add hj).1, (quo_add hj).2] at hx
  have hn : n < N := by
    rcases Nat.lt_or_ge n N with h | h
    · exact h
    · have := Nat.mul_le_mul_right U h; omega
  have h3 : stepU put again s bs st0 n = .error e := by
    unfold stepU; refine ex_err (j := j + 1) ?_; rw [ex_snoc hx]
    show (((unitS s.ax.toNat s.ps n).take j).foldlM (stepB put bs) (begT again s st0 n)).bind _ = _
    rw [h2]; exact he
  unfold tellS; rw [hN]; refine ex_err (j := n + 1) ?_; rw [List.take_range, Nat.min_eq_left (by omega)]
  show foldT put again s bs t0 (n + 1) = _
  rw [foldT_succ h1, h3]
theorem TlAt.fin {U N : Nat} {st : T × List Int} (h : TlAt put again s bs t0 U (N * U) st) (hN : (s.ax * s.dn).toNat = N) (hU : unitN s.ps = U) (hU0 : 0 < U) : tellS put again s bs t0 = .ok st := by
  have := h.new hU hU0 (Nat.mul_mod_left _ _); rw [Nat.mul_div_cancel _ hU0] at this; unfold tellS; rw [hN]; exact this
end
theorem first_same {iv : Int} {U k n r : Nat} (h0 : 0 < k) (hn : k / U = n) (hr : k % U = r) (hT : (decide (r = 0) && resS iv n) = false) (hU0 : 0 < U) : k / U / iv.toNat = (k - 1) / U / iv.toNat ∨ ¬ 0 < iv := by
  by_cases hiv : 0 < iv
  · left
    obtain ⟨m, rfl⟩ : ∃ m, k = m + 1 := ⟨k - 1, by omega⟩; rw [Nat.add_sub_cancel]; obtain ⟨i, hi⟩ : ∃ i, iv.toNat = i := ⟨_, rfl⟩; rw [hi]; have e1 := @Nat.succ_div m U; have e1 : (m + 1) / U = m / U + if U ∣ m + 1 then 1 else 0 := Nat.succ_div
    by_cases hd : U ∣ m + 1
    · rw [if_pos hd] at e1
      have hr0 : r = 0 := by rw [← hr]; exact Nat.mod_eq_zero_of_dvd hd
      rw [hr0] at hT; have hres : resS iv n = false := by simpa using hT
      have e2 : (m / U + 1) / i = m / U / i + if i ∣ m / U + 1 then 1 else 0 := Nat.succ_div; rw [e1, e2, if_neg]
      · rfl
      · intro hdv
        have : resS iv n = true := by
          unfold resS; rw [decide_eq_true_eq]; exact ⟨hiv, by rw [← hn, e1]; exact Nat.succ_pos _, by rw [hi, ← hn, e1]; exact Nat.mod_eq_zero_of_dvd hdv⟩
        rw [this] at hres; cases hres
    · rw [if_neg hd] at e1
      rw [e1]
      rfl
  · exact .inr hiv
theorem firstD_same {iv : Int} {U k n r : Nat} (h0 : 0 < k) (hn : k / U = n) (hr : k % U = r) (hT : (decide (r = 0) && resS iv n) = false) (hU0 : 0 < U) : firstD iv U k = firstD iv U (k - 1) := by
  unfold firstD
  rcases first_same h0 hn hr hT hU0 with h | h
  · rw [h]
  · rw [if_neg h, if_neg h]
theorem firstD_reset {iv : Int} {U k n r : Nat} (hn : k / U = n) (hr : k % U = r) (hT : (decide (r = 0) && resS iv n) = true) : firstD iv U k = k := by
  rw [Bool.and_eq_true, decide_eq_true_eq] at hT; obtain ⟨hr0, hres⟩ := hT; unfold resS at hres; rw [decide_eq_true_eq] at hres; unfold firstD; rw [if_pos hres.1, hn, Nat.div_mul_cancel (Nat.dvd_of_mod_eq_zero hres.2.2), ← hn]; exact Nat.div_mul_cancel (Nat.dvd_of_mod_eq_zero (by omega))
/-- what a plane's last block began with, as the document counts it -/
def LaIn (s : ScT) (bs : List (List (List Int))) (UU : List (Nat × Nat)) (U k : Nat) (la : List Int) : Prop := la.length = s.ps.length ∧ ∀ part, part < s.ps.length → la.getD part 0 = lastD bs part ((UU.take k).drop (firstD s.iv U k))
def LaAt (s : ScT) (bs : List (List (List Int))) (UU : List (Nat × Nat)) (U k : Nat) (la : List Int) : Prop := la.length = s.ps.length ∧ ∀ part, part < s.ps.length → la.getD part 0 = lastD bs part ((UU.take k).drop (firstD s.iv U (k - 1)))
section
variable {s : ScT} {bs : List (List (List Int))} {UU : List (Nat × Nat)} {U k n r : Nat} {la : List Int}
theorem getD_zeros (m i : Nat) : (List.replicate m (0 : Int)).getD i 0 = 0 := by
  rw [List.getD_eq_getElem?_getD, List.getElem?_replicate]
  split <;> rfl
theorem LaAt.zero : LaAt s bs UU U 0 (List.replicate s.ps.length 0) := ⟨List.length_replicate, fun part _ => by rw [getD_zeros, List.take_zero, List.drop_nil]; rfl⟩
theorem LaAt.stay (h : LaAt s bs UU U k la) (hn : k / U = n) (hr : k % U = r) (hT : (decide (r = 0) && resS s.iv n) = false) (hU0 : 0 < U) : LaIn s bs UU U k la := by
  refine ⟨h.1, fun part hp => ?_⟩
  rcases Nat.eq_zero_or_pos k with rfl | hk
  · exact h.2 part hp
  · rw [firstD_same hk hn hr hT hU0]
    exact h.2 part hp
theorem LaIn.reset (hn : k / U = n) (hr : k % U = r) (hT : (decide (r = 0) && resS s.iv n) = true) : LaIn s bs UU U k (List.replicate s.ps.length 0) :=
  ⟨List.length_replicate, fun part hp => by rw [firstD_reset hn hr hT, List.drop_of_length_le (by rw [List.length_take]; omega), getD_zeros]; rfl⟩
theorem LaIn.next (h : LaIn s bs UU U k la) {y : Nat × Nat} (hy : UU[k]? = some y) : LaAt s bs UU U (k + 1) (la.set y.1 ((blkB bs y).getD 0 0)) := by
  refine ⟨by rw [List.length_set]; exact h.1, fun part hp => ?_⟩; rw [Nat.add_sub_cancel, take_drop_snoc (firstD_le _ _ _) hy, lastD_snoc]
  by_cases hyp : y.1 = part
  · rw [if_pos hyp, hyp, List.getD_eq_getElem?_getD, List.getElem?_set_self (by rw [h.1]; exact hp)]
    rfl
  · rw [if_neg hyp, List.getD_eq_getElem?_getD, List.getElem?_set_ne hyp, ← List.getD_eq_getElem?_getD]
    exact h.2 part hp
theorem LaIn.code (h : LaIn s bs UU U k la) (hU : unitN s.ps = U) {y : Nat × Nat} {p : PtM} (hy : UU[k]? = some y) (hp : s.ps[y.1]? = some p) : symsD s bs UU k = codeB (blkB bs y) (la.getD y.1 0) := by
  unfold symsD; have hyd : UU.getD k (0, 0) = y := by rw [List.getD_eq_getElem?_getD, hy]; rfl
  rw [hyd, hU, h.2 y.1 (List.getElem?_eq_some_iff.1 hp).1]
end
theorem unit_pos {ps : List PtM} (h : ∀ (k : Nat) p, ps[k]? = some p → mayPt p = true) (h1 : 1 ≤ ps.length) : 0 < unitN ps := by
  cases ps with
  | nil => simp at h1
  | cons p l =>
    have hm := mayPt_bd (h 0 p rfl); have h2 : 0 < p.1.toNat * p.2.1.toNat := Nat.mul_pos (by omega) (by omega); unfold unitN; rw [List.map_cons, List.sum_cons]
    omega
theorem unitN_sum {ps : List PtM} (h : ∀ (k : Nat) p, ps[k]? = some p → mayPt p = true) : (unitN ps : Int) = sumPt ps := by
  induction ps with
  | nil => rfl
  | cons p l ih =>
    have hm := mayPt_bd (h 0 p rfl); have h2 := ih fun k q hq => h (k + 1) q hq; unfold unitN sumPt at h2 ⊢; rw [List.map_cons, List.sum_cons, List.map_cons, List.sum_cons, Int.natCast_add, h2, Int.natCast_mul, Int.toNat_of_nonneg (by omega), Int.toNat_of_nonneg (by omega)]
end Go.Proofs.Ytpjopeojeglogaa

namespace Go.Proofs.Ytpjopeojeglogaa
open Go.RowKit Tt
set_option linter.unusedVariables false
set_option linter.unusedSimpArgs false

theorem wcod_elem {w : World} {B : Nat} {a : Option Addr} {n c : Nat} {l : List Cod} (h : w.ownsRow B 133 4 (.slice a n c) n (codC l)) {j : Nat} {x : Cod} (hx : l[j]? = some x) :
    ∃ b o, a = some ⟨b, o, none⟩ ∧ b < w.heap.size ∧ w.cell? ⟨b, o + j * 4, none⟩ = some (.int .i64 x.1) ∧ w.cell? ⟨b, o + j * 4 + 1, none⟩ = some (.int .i64 x.2.1) ∧ w.cell? ⟨b, o + j * 4 + 2, none⟩ = some (.int .i64 x.2.2.1) ∧ w.cell? ⟨b, o + j * 4 + 2 + 1, none⟩ = some (.int .i64 x.2.2.2) := by
  have hs := (Sl.of_own h).1
  have hl : l.length = n := by
    have h1 := hs.len; rw [codC_len] at h1; omega
  have hj : j < n := by rw [← hl]; exact (List.getElem?_eq_some_iff.1 hx).1
  obtain ⟨b, o, e, hb, _, hc⟩ := hs.elem hj; have hc2 := flat_elem (fun x : Cod => ints .i64 (cdL x)) 4 l (fun q hq => rfl) j x hx; unfold codC at hc; rw [hc2] at hc; exact ⟨b, o, e, hb, hc 0 _ rfl, hc 1 _ rfl, hc 2 _ rfl, hc 3 _ rfl⟩
section
variable {w0 w w' : World} {oa : Option Addr} {on oc : Nat} {ra : Option Addr} {rn rc : Nat} {t : WrT}
end
theorem lowS_bit (v : Int) (n : Nat) : BitL (lowS v n) := fun x hx => by
  unfold lowS at hx; obtain ⟨j, _, rfl⟩ := List.mem_map.1 hx; have h1 := Int.emod_nonneg (v / 2 ^ (n - 1 - j)) (by decide : (2 : Int) ≠ 0); have h2 := Int.emod_lt_of_pos (v / 2 ^ (n - 1 - j)) (by decide : (0 : Int) < 2)
  omega
end Go.Proofs.Ytpjopeojeglogaa

namespace Go.Proofs.Ytpjopeojeglogaa
open Go.RowKit Tt
set_option linter.unusedVariables false
set_option linter.unusedSimpArgs false

theorem doc_mul {a h d v : Nat} (ha : a ≤ 512) (hd : d ≤ 512) (hh : h ≤ 4) (hv : v ≤ 4) :
    ∃ x y z : Nat, z ≤ 4194304 ∧ a * h * d * v = z ∧ IntKind.i64.wrap ((a : Int) * d) = x ∧ IntKind.i64.wrap ((x : Int) * h) = y ∧ IntKind.i64.wrap ((y : Int) * v) = z := by
  have b1 : a * d ≤ 512 * 512 := Nat.mul_le_mul ha hd; have b2 : a * d * h ≤ 512 * 512 * 4 := Nat.mul_le_mul b1 hh; have b3 : a * d * h * v ≤ 512 * 512 * 4 * 4 := Nat.mul_le_mul b2 hv; refine ⟨a * d, a * d * h, a * d * h * v, b3, by rw [Nat.mul_assoc a h d, Nat.mul_comm h d, ← Nat.mul_assoc], ?_, ?_, ?_⟩
  · rw [← Int.natCast_mul]; exact wrapN (by omega)
  · rw [← Int.natCast_mul]; exact wrapN (by omega)
  · rw [← Int.natCast_mul]; exact wrapN (by omega)
set_option maxRecDepth 100000 in
set_option maxHeartbeats 4000000 in
theorem rwhole12_any (s : ScT) (bs : List BpM) (pa ba : Option Addr) (pn pc bn bc : Nat) (w : World) (hs : PtsR w pa pn pc s.ps) (hbs : BpsR w ba bn bc bs) (hbn : bn ≤ 1000000000) (hbl : ∀ b ∈ bs, b.2.2.1 ≤ 1000000000) (hw1 : Wf s.ax) (hw2 : Wf s.dn) (hw3 : Wf s.iv) (hpw : ∀ p ∈ s.ps, Wf p.1 ∧ Wf p.2.1) :
    Calls Try.prog 27 #[.agg #[.int .i64 s.ax, .int .i64 s.dn, .slice pa pn pc, .int .i64 s.iv], .slice ba bn bc] w fun e w' => e = .returned (.bool (wholeS s (bs.map (·.1)))) ∧ Below w.heap.size w w' := by
  have HM := fun W (h : Below w.heap.size w W) => rmay12_any s pa pn pc W (hs.mono h) hw1 hw2 hw3 hpw; have hl := hs.ilen; have hbl2 := hbs.ilen; have hbad := @wholeS_bad s (bs.map (·.1)); have hok := @wholeS_ok s (bs.map (·.1)); have hno := @wholeS_may s (bs.map (·.1)); have hln := @wholeS_len s (bs.map (·.1)); have hparts := @mayS_parts s; obtain ⟨R, hR⟩ : ∃ R, mayS s = R := ⟨_, rfl⟩; obtain ⟨Q, hQ⟩ : ∃ Q, wholeS s (bs.map (·.1)) = Q := ⟨_, rfl⟩; rw [hQ] at hok hno hln ⊢; have hbad : ∀ (i : Nat) (p : PtM) (b : List (List Int)), s.ps[i]? = some p → (bs.map (·.1))[i]? = some b → ¬ (b.length : Int) = s.ax * p.1 * s.dn * p.2.1 → Q = false := fun i p b h1 h2 h3 => hQ ▸ hbad h1 h2 h3; rw [hR] at HM hok hno hparts; rw [List.length_map, hbl2, hl] at hok hln; obtain ⟨ax, dn, iv, ps⟩ := s; simp only at hs hl HM hbad hok hparts; have b1 := Blk.new w 24 #[.int .i64 ax, .int .i64 dn, .slice pa pn pc, .int .i64 iv]; have hb1 := (Below.refl w.heap.size w).alloc (Nat.le_refl _) (.cells #[.int .i64 ax, .int .i64 dn, .slice pa pn pc, .int .i64 iv] 24); obtain ⟨W1, hW1⟩ : ∃ W1, w.alloc (.cells #[.int .i64 ax, .int .i64 dn, .slice pa pn pc, .int .i64 iv] 24) = W1 := ⟨_, rfl⟩; rw [hW1] at b1 hb1; have hcs : ∀ W, Blk W w.heap.size 24 #[.int .i64 ax, .int .i64 dn, .slice pa pn pc, .int .i64 iv] → W.cell? ⟨w.heap.size, 0, none⟩ = some (.int .i64 ax) ∧ W.cell? ⟨w.heap.size, 1, none⟩ = some (.int .i64 dn) ∧ W.cell? ⟨w.heap.size, 2, none⟩ = some (.slice pa pn pc) ∧ W.cell? ⟨w.heap.size, 3, none⟩ = some (.int .i64 iv) := fun W b => ⟨b.cell rfl, b.cell rfl, b.cell rfl, b.cell rfl⟩; obtain ⟨k0, k1, k2, k3⟩ := hcs W1 b1; have hs' := Lib.hid hs; have hbs' := Lib.hid hbs; have b1' := Lib.hid b1; have hb1' := Lib.hid hb1; have hW1' := Lib.hid hW1; have hpw' := Lib.hid hpw; have hR' := Lib.hid hR; have HM' := Lib.hid HM; have hw1' := Lib.hid hw1; have hw2' := Lib.hid hw2; have hw3' := Lib.hid hw3; have hl' := Lib.hid hl; have hbl' := Lib.hid hbl; have hbl2' := Lib.hid hbl2; have hbad' := Lib.hid hbad; have hok' := Lib.hid hok; have hno' := Lib.hid hno; have hln' := Lib.hid hln; have hparts' := Lib.hid hparts; have hQ' := Lib.hid hQ; have hcs' := Lib.hid hcs; clear hs hbs b1 hb1 hW1 hpw hR HM hw1 hw2 hw3 hl hbl hbl2 hbad hok hno hln hparts hQ hcs
  go_enter Try.func27, Try.ntmps27
  go_upto_region 1 with fail
  rw [hW1'.out]
  go_wp2_with fail
  refine (HM'.out _ hb1'.out).mono ?_; rintro e w2 ⟨rfl, hb2⟩; have hbw2 := hb1'.out.trans (hb2.mono hb1'.out.size); have b2 := b1'.out.late hb2; clear hb2 k0 k1 k2 k3; obtain ⟨k0, k1, k2, k3⟩ := hcs'.out w2 b2; clear k0 k1 k3
  cases R with
  | false =>
    obtain rfl : Q = false := hno'.out rfl; have hbw2' := Lib.hid hbw2; have b2' := Lib.hid b2; clear hbw2 b2
    go_wp2
    go_ret
    exact ⟨rfl, hbw2'.out⟩
  | true =>
    obtain ⟨htop, hpts, hsum⟩ := hparts'.out rfl
    by_cases hq : (bn : Int) = pn
    · have hbp : bn = pn := by omega
      subst hbp; obtain ⟨a, rfl⟩ : ∃ a : Nat, ax = a := ⟨ax.toNat, by omega⟩; obtain ⟨d, rfl⟩ : ∃ a : Nat, dn = a := ⟨dn.toNat, by omega⟩; have ha : a ≤ 512 := by omega
      have hd : d ≤ 512 := by omega
      have hok2 := hok'.out rfl rfl; clear hq; have hbw2' := Lib.hid hbw2; have b2' := Lib.hid b2; have hpts' := Lib.hid hpts; have hsum' := Lib.hid hsum; have htop' := Lib.hid htop; have hok2' := Lib.hid hok2; have ha' := Lib.hid ha; have hd' := Lib.hid hd; clear hbw2 b2 hpts hsum htop hok2 ha hd
      go_wp2
      clear k2
      go_loopw [5] (fun xv wr => ∃ k : Nat, k ≤ bn ∧ xv = .int .i64 k ∧ Hid (∀ (j : Nat) (p : PtM) (b : List (List Int)), j < k → ps[j]? = some p → (bs.map (·.1))[j]? = some b → (b.length : Int) = a * p.1 * d * p.2.1) ∧ Hid (Below w2.heap.size w2 wr)) (fun xv _ => bn - (intOf xv).toNat)
      case atStart => exact ⟨0, by omega, rfl, Lib.hid (fun j p b h => by omega), Lib.hid (Below.refl _ _)⟩
      case round =>
        rename World => wr
        obtain ⟨k, hk, rfl, hall, hbel⟩ := hrel; have hbw := hbw2'.out.trans (hbel.out.mono hbw2'.out.size)
        by_cases hlt : k < bn
        · obtain ⟨p, hp⟩ : ∃ p, ps[k]? = some p := ⟨_, List.getElem?_eq_getElem (by rw [hl'.out]; exact hlt)⟩
          obtain ⟨bl, hbl3⟩ : ∃ b, bs[k]? = some b := ⟨_, List.getElem?_eq_getElem (by rw [hbl2'.out]; exact hlt)⟩; obtain ⟨bb, o, rfl, hbb, f⟩ := (hs'.out.mono hbw).elem hp; obtain ⟨gb, ob, rfl, hgb, fb⟩ := (hbs'.out.mono hbw).elem hbl3; have hbok := hbs'.out.ok bl (List.mem_of_getElem? hbl3); have hpm := mayPt_bd (hpts'.out k p hp); have hbdl := hbl'.out bl (List.mem_of_getElem? hbl3); have hbad3 := fun h => hbad'.out k p bl.1 hp (by rw [List.getElem?_map, hbl3]; rfl) h; have hil := hbok.ilen
          have hall2 : (bl.1.length : Int) = a * p.1 * d * p.2.1 → ∀ (j : Nat) (q : PtM) (b : List (List Int)), j < k + 1 → ps[j]? = some q → (bs.map (·.1))[j]? = some b → (b.length : Int) = a * q.1 * d * q.2.1 := fun he j q b hj hq hb => by
            rcases Nat.lt_or_ge j k with h | h
            · exact hall.out j q b h hq hb
            · obtain rfl : j = k := by omega
              rw [hp] at hq; injection hq with hq; rw [List.getElem?_map, hbl3] at hb; injection hb with hb; rw [← hq, ← hb]; exact he
          rw [hil] at hbad3 hall2; obtain ⟨x, y, hdc, hac⟩ := p; obtain ⟨bl, ta, tn, tc⟩ := bl; simp only at hpm hbad3 hall2 hbdl; obtain ⟨h, rfl⟩ : ∃ h : Nat, x = h := ⟨x.toNat, by omega⟩; obtain ⟨v, rfl⟩ : ∃ h : Nat, y = h := ⟨y.toNat, by omega⟩; obtain ⟨x1, x2, z, hz, hze, e1, e2, e3⟩ := doc_mul (h := h) (v := v) ha'.out hd'.out (by omega) (by omega); have hzi : (a : Int) * h * d * v = z := by rw [← Int.natCast_mul, ← Int.natCast_mul, ← Int.natCast_mul, hze]
          rw [hzi] at hbad3 hall2; have f0 : wr.cell? ⟨bb, o + k * 36, none⟩ = some (.int .i64 (h : Int)) := f 0 _ rfl; have f1 : wr.cell? ⟨bb, o + k * 36 + 1, none⟩ = some (.int .i64 (v : Int)) := f 1 _ rfl; unfold bpV at fb; obtain ⟨k0, k1, k2, k3⟩ := hcs'.out wr (b2'.out.late hbel.out); clear hpm hze hzi f k3; have hp' := Lib.hid hp; have hbl3' := Lib.hid hbl3; have hbok' := Lib.hid hbok; have hbad3' := Lib.hid hbad3; have hil' := Lib.hid hil; have hall2' := Lib.hid hall2; have hbb' := Lib.hid hbb; have hgb' := Lib.hid hgb; have hbw' := Lib.hid hbw; clear hp hbl3 hbok hbad3 hil hall2 hbb hgb hbw
          by_cases he : (tn : Int) = z
          · have hall5 := hall2'.out he
            obtain rfl : tn = z := by omega
            have hnz : ((tn : Int) != (tn : Int)) = false := by simp
            clear he; have hall5' := Lib.hid hall5; clear hall5
            go_wp2
            go_quiet (fail)
            go_wp2
            go_roundw
            case rel => exact ⟨k + 1, by omega, by go_num, hall5', Lib.hid (hbel.out.trans ((Qt.below ⟨_, rfl⟩ _).mono hbel.out.size))⟩
            case measure => simp [intOf]; omega
          · obtain rfl : Q = false := hbad3'.out he
            have hnz : ((tn : Int) != (z : Int)) = true := by simp; omega
            clear he
            go_wp2
            go_quiet (fail)
            go_wp2
            go_ret
            exact ⟨rfl, hbw'.out.trans ((Qt.below ⟨_, rfl⟩ _).mono hbw'.out.size)⟩
        · obtain rfl : k = bn := by omega
          obtain rfl : Q = true := hok2'.out (fun i p b hp hb => hall.out i p b (by have := (List.getElem?_eq_some_iff.1 hp).1; have := hl'.out; omega) hp hb); have hbw' := Lib.hid hbw; clear hbw
          go_wp2
          go_ret
          exact ⟨rfl, hbw'.out⟩
    · obtain rfl : Q = false := hln'.out (by omega)
      have hnq : ((bn : Int) != (pn : Int)) = true := by simp; omega
      clear hq; have hbw2' := Lib.hid hbw2; have b2' := Lib.hid b2; clear hbw2 b2
      go_wp2
      go_ret
      exact ⟨rfl, hbw2'.out⟩
end Go.Proofs.Ytpjopeojeglogaa

namespace Go.Proofs.Ytpjopeojeglogaa
open Go.RowKit Tt
set_option linter.unusedVariables false
set_option linter.unusedSimpArgs false

def ManyP (bn : Nat) (bs : List BpM) (w : World) (e : Ending) (w' : World) : Prop := ∃ b, e = .returned (.bool b) ∧ (b = false → bn ≤ 5 ∧ ∀ x ∈ bs, x.2.2.1 ≤ 100) ∧ Below w.heap.size w w'
set_option maxRecDepth 100000 in
set_option maxHeartbeats 4000000 in
theorem many12_any (bs : List BpM) (ba : Option Addr) (bn bc : Nat) (w : World) (hbs : BpsR w ba bn bc bs) :
    Calls Try.prog 17 #[.slice ba bn bc] w (ManyP bn bs w) := by
  have hl := hbs.ilen; have hle := hbs.sl.le; have hmx := hbs.sl.max; have hbs' := Lib.hid hbs; have hl' := Lib.hid hl; clear hbs hl
  go_enter Try.func17, Try.ntmps17
  go_wp2
  go_loopw [3] (fun xv wr => ∃ k : Nat, k ≤ bn ∧ xv = .int .i64 k ∧ Hid (∀ (j : Nat) x, j < k → bs[j]? = some x → x.2.2.1 ≤ 100) ∧ wr = w) (fun xv _ => bn - (intOf xv).toNat)
  case atStart => exact ⟨0, by omega, rfl, Lib.hid (fun j p h => by omega), rfl⟩
  case round =>
    rename World => wr
    obtain ⟨k, hk, rfl, hall, hwr⟩ := hrel
    by_cases hlt : k < bn
    · obtain ⟨bl, hbl3⟩ : ∃ b, bs[k]? = some b := ⟨_, List.getElem?_eq_getElem (by rw [hl'.out]; exact hlt)⟩
      obtain ⟨gb, ob, rfl, hgb, fb⟩ := hbs'.out.elem hbl3; have hok := hbs'.out.ok bl (List.mem_of_getElem? hbl3); have hn9 : bl.2.2.1 ≤ 9223372036854775807 := Nat.le_trans hok.sl.le hok.sl.max; unfold bpV at fb; obtain ⟨tn, htn⟩ : ∃ n, bl.2.2.1 = n := ⟨_, rfl⟩; rw [htn] at fb hn9; obtain ⟨tc, htc⟩ : ∃ n, bl.2.2.2 = n := ⟨_, rfl⟩; obtain ⟨ta, hta⟩ : ∃ n, bl.2.1 = n := ⟨_, rfl⟩; rw [htc, hta] at fb; subst hwr
      by_cases h100 : 100 < tn
      · clear htn htc hta
        have hbl3' := Lib.hid hbl3; have hok' := Lib.hid hok; have hgb' := Lib.hid hgb; clear hbl3 hok hgb
        go_wp2
        go_ret
        exact ⟨true, rfl, (fun h => by cases h), Below.refl _ _⟩
      · have hall2 : ∀ (j : Nat) x, j < k + 1 → bs[j]? = some x → x.2.2.1 ≤ 100 := fun j x hj hx => by
          rcases Nat.lt_or_ge j k with h | h
          · exact hall.out j x h hx
          · obtain rfl : j = k := by omega
            rw [hbl3] at hx; injection hx with hx; rw [← hx, htn]; omega
        clear htn htc hta; have hbl3' := Lib.hid hbl3; have hok' := Lib.hid hok; have hgb' := Lib.hid hgb; have hall2' := Lib.hid hall2; clear hbl3 hok hgb hall2
        go_wp2
        go_roundw
        case rel => exact ⟨k + 1, by omega, by go_num, hall2', by first | rfl | trivial⟩
        case measure => simp [intOf]; omega
    · obtain rfl : k = bn := by omega
      subst hwr
      have hall3 : ∀ x ∈ bs, x.2.2.1 ≤ 100 := fun x hx => by
        obtain ⟨i, hi, e⟩ := List.mem_iff_getElem.1 hx; exact hall.out i x (by rw [← hl'.out]; exact hi) (by rw [List.getElem?_eq_getElem hi, e])
      have hall3' := Lib.hid hall3; clear hall3
      by_cases h5 : 5 < k
      · go_wp2
        go_ret
        exact ⟨true, by first | rfl | (congr 2; simp; omega), (fun h => by cases h), Below.refl _ _⟩
      · go_wp2
        go_ret
        exact ⟨false, by first | rfl | (congr 2; simp; omega), (fun _ => ⟨by omega, hall3'.out⟩), Below.refl _ _⟩
end Go.Proofs.Ytpjopeojeglogaa

namespace Go.Proofs.Ytpjopeojeglogaa
open Go.RowKit Tt
set_option linter.unusedVariables false
set_option linter.unusedSimpArgs false

theorem few_units {s : ScT} (h : mayS s = true) (h1 : ¬ (12 < s.ax ∧ s.ax ≤ 512)) (h2 : ¬ (12 < s.dn ∧ s.dn ≤ 512)) (h3 : ¬ (24 < IntKind.i64.wrap (s.ax * s.dn) ∧ s.ax ≤ 12)) : (s.ax * s.dn).toNat ≤ 26 := by
  obtain ⟨htop, _, _⟩ := mayS_parts h; obtain ⟨a, ha⟩ : ∃ a : Nat, s.ax = a := ⟨s.ax.toNat, by omega⟩; obtain ⟨d, hd⟩ : ∃ d : Nat, s.dn = d := ⟨s.dn.toNat, by omega⟩; rw [ha, hd] at h3 ⊢; have b1 : a * d ≤ 12 * 12 := Nat.mul_le_mul (by omega) (by omega); rw [← Int.natCast_mul] at h3 ⊢; rw [wrapN (by omega)] at h3
  omega
end Go.Proofs.Ytpjopeojeglogaa
