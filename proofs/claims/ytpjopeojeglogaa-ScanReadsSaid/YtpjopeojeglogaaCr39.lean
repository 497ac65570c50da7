/- Chapter 12 (plain): reading block by block, as the document does, is reading unit by unit. | Chapter 12 (plain): the pieces of bytes are bytes of theirs. | Chapter 12, the document's side: what stands in memory while blocks are read. | Chapter 12, the document's side: May, Restarts. | Chapter 12 (plain): a block's turn: the reader stays, or begins anew behind a marker. -/
import Derived.Test.YtpjopeojeglogaaCr31
import Derived.Test.YtpjopeojeglogaaCr26
import Derived.Test.YtpjopeojeglogaaCr38
import Derived.Test.YtpjopeojeglogaaCr29
import Derived.Test.YtpjopeojeglogaaCr15
import Derived.Test.YtpjopeojeglogaaCr04
namespace Go.Proofs.Ytpjopeojeglogaa
open Go.RowKit Tt
set_option linter.unusedVariables false
set_option linter.unusedSimpArgs false

/-- so far before the block k; its unit has been begun -/
def RdIn (s : ScT) (b : List Int) (U k : Nat) (st : RdT) : Prop := ∃ n j st0 st1, j < U ∧ k = n * U + j ∧ (List.range n).foldlM (rdU s) (rd0 s b) = .ok st0 ∧ startR s st0 n = some st1 ∧ ((unitS s.ax.toNat s.ps n).take j).foldlM (rdE s.ps n) st1 = .ok st
/-- the same, and its unit is begun next, if it is one's first block -/
def RdAt (s : ScT) (b : List Int) (U k : Nat) (st : RdT) : Prop := (k = 0 ∧ startR s (rd0 s b) 0 = some st) ∨ ∃ n j st0 st1, j < U ∧ k = n * U + j + 1 ∧ (List.range n).foldlM (rdU s) (rd0 s b) = .ok st0 ∧ startR s st0 n = some st1 ∧ ((unitS s.ax.toNat s.ps n).take (j + 1)).foldlM (rdE s.ps n) st1 = .ok st
variable {s : ScT} {b : List Int} {U k : Nat} {st : RdT}
theorem div_of {n j U : Nat} (hj : j < U) : (n * U + j) / U = n ∧ (n * U + j) % U = j := quo_add hj
theorem RdAt.zero (h : RdAt s b U 0 st) (hU : 0 < U) : RdIn s b U 0 st := by
  rcases h with ⟨_, h⟩ | ⟨n, j, _, _, _, h, _⟩
  · exact ⟨0, 0, _, _, hU, by simp, rfl, h, rfl⟩
  · omega
theorem RdAt.mid (h : RdAt s b U k st) (hk : k % U ≠ 0) : RdIn s b U k st := by
  rcases h with ⟨rfl, h⟩ | ⟨n, j, st0, st1, hj, hk2, h1, h2, h3⟩
  · simp at hk
  · have hj1 : j + 1 < U := by
      rcases Nat.lt_or_ge (j + 1) U with h | h
      · exact h
      · obtain rfl : U = j + 1 := by omega
        rw [hk2, show n * (j + 1) + j + 1 = (n + 1) * (j + 1) by rw [Nat.succ_mul]; omega, Nat.mul_mod_left] at hk; exact absurd rfl hk
    exact ⟨n, j + 1, st0, st1, hj1, by omega, h1, h2, h3⟩
theorem RdAt.new (h : RdAt s b U k st) (hU : unitN s.ps = U) (hk : k % U = 0) (h0 : 0 < k) : (List.range (k / U)).foldlM (rdU s) (rd0 s b) = .ok st := by
  rcases h with ⟨rfl, h⟩ | ⟨n, j, st0, st1, hj, hk2, h1, h2, h3⟩
  · omega
  · have hj1 : j + 1 = U := by
      rcases Nat.lt_or_ge (j + 1) U with h | h
      · rw [hk2, Nat.add_assoc, (div_of h).2] at hk; omega
      · omega
    have e : k / U = n + 1 := by
      rw [hk2, Nat.add_assoc, hj1, show n * U + U = (n + 1) * U by rw [Nat.succ_mul], Nat.mul_div_cancel _ (by omega)]
    rw [e, rd_step h1, rdU_some h2]; rw [List.take_of_length_le (by rw [unitS_many, hU]; omega)] at h3; exact h3
theorem RdIn.of_new (h : (List.range (k / U)).foldlM (rdU s) (rd0 s b) = .ok st) (hU : 0 < U) (hk : k % U = 0) {st1 : RdT} (h1 : startR s st (k / U) = some st1) : RdIn s b U k st1 :=
  ⟨k / U, 0, st, st1, hU, by have := Nat.div_add_mod k U; rw [Nat.mul_comm]; omega, h, h1, rfl⟩
theorem rd_err_new {N : Nat} (hN : (s.ax * s.dn).toNat = N) (h : (List.range (k / U)).foldlM (rdU s) (rd0 s b) = .ok st) (hn : k / U < N) (h1 : startR s st (k / U) = none) : readS s b = .error (k / U) := readS_err hN h hn (rdU_none h1)
theorem rd_err_zero {N : Nat} (hN : (s.ax * s.dn).toNat = N) (hn : 0 < N) (h1 : startR s (rd0 s b) 0 = none) : readS s b = .error 0 := readS_err (n := 0) hN rfl hn (rdU_none h1)
theorem RdIn.err (h : RdIn s b U k st) {N : Nat} (hN : (s.ax * s.dn).toNat = N) (hU : unitN s.ps = U) (hk : k < N * U) {x : Nat × Nat} (hx : (unitS s.ax.toNat s.ps (k / U))[k % U]? = some x) (he : rdB s.ps st x = none) : readS s b = .error (k / U) := by
  obtain ⟨n, j, st0, st1, hj, rfl, h1, h2, h3⟩ := h; rw [(div_of hj).1, (div_of hj).2] at hx; rw [(div_of hj).1]
  have hn : n < N := by
    rcases Nat.lt_or_ge n N with h | h
    · exact h
    · have := Nat.mul_le_mul_right U h; omega
  refine readS_err hN h1 hn ?_; rw [rdU_some h2]; refine exN_err (j := j + 1) ?_; rw [exN_snoc hx, h3]
  show rdE s.ps n st x = _
  unfold rdE; rw [he]
theorem RdIn.ok (h : RdIn s b U k st) {x : Nat × Nat} (hx : (unitS s.ax.toNat s.ps (k / U))[k % U]? = some x) {st2 : RdT} (he : rdB s.ps st x = some st2) : RdAt s b U (k + 1) st2 := by
  obtain ⟨n, j, st0, st1, hj, rfl, h1, h2, h3⟩ := h; rw [(div_of hj).1, (div_of hj).2] at hx; refine .inr ⟨n, j, st0, st1, hj, rfl, h1, h2, ?_⟩; rw [exN_snoc hx, h3]
  show rdE s.ps n st x = _
  unfold rdE; rw [he]
theorem RdAt.fin {N : Nat} (h : RdAt s b U (N * U) st) (hN : (s.ax * s.dn).toNat = N) (hU : unitN s.ps = U) (h0 : 0 < N * U) : readS s b = if fillS st.B = true ∧ st.rest = [] then .ok st.bl else .error N := by
  have hU0 : 0 < U := Nat.pos_of_ne_zero fun h => by rw [h, Nat.mul_zero] at h0; omega
  have := h.new hU (Nat.mul_mod_left _ _) h0; rw [Nat.mul_div_cancel _ hU0] at this; exact readS_end hN this
end Go.Proofs.Ytpjopeojeglogaa

namespace Go.Proofs.Ytpjopeojeglogaa
open Go.RowKit Tt
set_option linter.unusedVariables false
set_option linter.unusedSimpArgs false

theorem consP_mem {x : Int} {l : List (List Int × Int)} {p : List Int × Int} (h : p ∈ consP x l) : (∃ q ∈ l, p = (x :: q.1, q.2)) ∨ p ∈ l := by
  cases l with
  | nil => cases h
  | cons q r =>
    rcases List.mem_cons.1 h with rfl | h
    · exact .inl ⟨q, List.mem_cons_self .., rfl⟩
    · exact .inr (List.mem_cons_of_mem _ h)
theorem pieceS_mem (n : Nat) : ∀ (l : List Int) (m : Int), l.length ≤ n → ∀ p ∈ pieceS l m, p.1.length ≤ l.length ∧ ∀ x ∈ p.1, x ∈ l := by
  induction n with
  | zero =>
    intro l m h p hp; obtain rfl : l = [] := List.eq_nil_of_length_eq_zero (by omega); rw [show pieceS [] m = [([], m)] from rfl] at hp; rw [List.mem_singleton.1 hp]; exact ⟨Nat.le_refl _, fun x hx => hx⟩
  | succ n ih =>
    intro l m h p hp
    match l with
    | [] =>
      rw [show pieceS [] m = [([], m)] from rfl] at hp; rw [List.mem_singleton.1 hp]; exact ⟨Nat.le_refl _, fun x hx => hx⟩
    | [x] =>
      rw [show pieceS [x] m = [([x], m)] from rfl] at hp; rw [List.mem_singleton.1 hp]; exact ⟨Nat.le_refl _, fun x hx => hx⟩
    | x :: y :: l =>
      unfold pieceS at hp
      split at hp
      · rcases List.mem_cons.1 hp with rfl | hp
        · exact ⟨by simp, fun x hx => by cases hx⟩
        · have := ih l (y - 208) (by simp only [List.length_cons] at h; omega) p hp
          exact ⟨by simp only [List.length_cons]; omega, fun z hz => List.mem_cons_of_mem _ (List.mem_cons_of_mem _ (this.2 z hz))⟩
      · rcases consP_mem hp with ⟨q, hq, rfl⟩ | hp
        · have := ih (y :: l) m (by simp only [List.length_cons] at h ⊢; omega) q hq
          refine ⟨by have := this.1; simp only [List.length_cons] at this ⊢; omega, fun z hz => ?_⟩
          rcases List.mem_cons.1 hz with rfl | hz
          · exact List.mem_cons_self ..
          · exact List.mem_cons_of_mem _ (this.2 z hz)
        · have := ih (y :: l) m (by simp only [List.length_cons] at h ⊢; omega) p hp
          exact ⟨by have := this.1; simp only [List.length_cons] at this ⊢; omega, fun z hz => List.mem_cons_of_mem _ (this.2 z hz)⟩
theorem piece_byt {z : List Int} (hz : Byt z) {m : Int} {p : List Int × Int} (h : p ∈ pieceS z m) : p.1.length ≤ z.length ∧ Byt p.1 :=
  ⟨(pieceS_mem _ z m (Nat.le_refl _) p h).1, fun x hx => hz x ((pieceS_mem _ z m (Nat.le_refl _) p h).2 x hx)⟩
end Go.Proofs.Ytpjopeojeglogaa

namespace Go.Proofs.Ytpjopeojeglogaa
open Go.RowKit Tt
set_option linter.unusedVariables false
set_option linter.unusedSimpArgs false

structure RdD (w4 w : World) (p5 zc g0 : Nat) (sc : Array Value) (a3 : Option Addr) (pn c3 : Nat) (L : List (Nat × List (List Int))) (aB : Option Addr) (nB cB gl : Nat) (st : RdT) : Prop where
  out : OutM p5 w a3 pn c3 L
  pl : L.map (·.2) = st.bl
  lt : ∀ (i : Nat) x, L[i]? = some x → x.1 < zc
  bit : Sl w aB nB cB 1 (ints .i64 st.B)
  bl : BitL st.B
  far : ∀ x, aB = some x → x.block < p5 ∨ zc ≤ x.block
  fl : ∀ x, aB = some x → x.block ≠ gl
  la : Blk w gl 3 (ints .i64 st.last).toArray
  ll : st.last.length = pn
  ls : ∀ y ∈ st.last, 0 ≤ sizeS y
  sb : Blk w g0 24 sc
  gle : w4.heap.size ≤ gl
  p54 : w4.heap.size ≤ p5
  bel : Below w4.heap.size w4 w
  sz : zc ≤ w.heap.size
section
variable {w4 w w' : World} {p5 zc g0 : Nat} {sc : Array Value} {a3 : Option Addr} {pn c3 : Nat} {L : List (Nat × List (List Int))} {aB : Option Addr} {nB cB gl : Nat} {st : RdT}
theorem RdD.late (h : RdD w4 w p5 zc g0 sc a3 pn c3 L aB nB cB gl st) (hb : Below w.heap.size w w') : RdD w4 w' p5 zc g0 sc a3 pn c3 L aB nB cB gl st :=
  ⟨h.out.late hb, h.pl, h.lt, h.bit.mono hb, h.bl, h.far, h.fl, h.la.late hb, h.ll, h.ls, h.sb.late hb, h.gle, h.p54, h.bel.trans (hb.mono h.bel.size), Nat.le_trans h.sz hb.size⟩
/-- other bits are left -/
theorem RdD.bits (h : RdD w4 w p5 zc g0 sc a3 pn c3 L aB nB cB gl st) {a2 : Option Addr} {n2 c2 : Nat} {B2 : List Int} (hs : Sl w a2 n2 c2 1 (ints .i64 B2)) (hB : BitL B2) (hf : ∀ x, a2 = some x → x.block < p5 ∨ zc ≤ x.block) (hl : ∀ x, a2 = some x → x.block ≠ gl) : RdD w4 w p5 zc g0 sc a3 pn c3 L a2 n2 c2 gl ⟨st.bl, B2, st.rest, st.last⟩ :=
  ⟨h.out, h.pl, h.lt, hs, hB, hf, hl, h.la, h.ll, h.ls, h.sb, h.gle, h.p54, h.bel, h.sz⟩
/-- a last number -/
theorem RdD.last (h : RdD w4 w p5 zc g0 sc a3 pn c3 L aB nB cB gl st) (k : Nat) {v : Int} (hv : 0 ≤ sizeS v) : RdD w4 (w.setCell ⟨gl, k, none⟩ (.int .i64 v)) p5 zc g0 sc a3 pn c3 L aB nB cB gl ⟨st.bl, st.B, st.rest, st.last.set k v⟩ := by
  have hb := (But.refl gl w).set k (.int .i64 v); refine ⟨h.out.mo (S := fun j => j = gl) (Mo.of_but hb rfl) (fun j hj e => own_neB h.out.own h.la (by decide) (e ▸ hj)) (fun i x hx e => blk_neT (h.out.blk i x hx).2.1 h.la (by decide) e), h.pl, h.lt, h.bit.but hb h.fl, h.bl, h.far, h.fl, ?_, by rw [List.length_set]; exact h.ll, fun y hy => (List.mem_or_eq_of_mem_set hy).elim (h.ls y) (fun e => e ▸ hv), h.sb.but hb (blk_neT h.sb h.la (by decide)), h.gle, h.p54, h.bel.trans (hb.below h.gle h.bel.size), Nat.le_trans h.sz hb.size⟩; have := h.la.set k (.int .i64 v)
  rwa [show (ints .i64 st.last).toArray.setIfInBounds k (.int .i64 v) = (ints .i64 (st.last.set k v)).toArray by unfold ints; rw [List.setIfInBounds_toArray, List.map_set]] at this
/-- a block -/
theorem RdD.put (h : RdD w4 w p5 zc g0 sc a3 pn c3 L aB nB cB gl st) {i k : Nat} {x : Nat × List (List Int)} (hx : L[i]? = some x) (hk : k < x.2.length) {b : List Int} (hb : b.length = 64) (hw : ∀ y ∈ b, (Lit.int .i64 y).wf = true) :
    RdD w4 (w.setCells x.1 (k * 64) (ints .i64 b)) p5 zc g0 sc a3 pn c3 (L.set i (x.1, x.2.set k b)) aB nB cB gl ⟨setB st.bl (i, k) b, st.B, st.rest, st.last⟩ := by
  obtain ⟨hB, hbl, _⟩ := h.out.blk i x hx; have hbt : But x.1 w (w.setCells x.1 (k * 64) (ints .i64 b)) := but_cells; have hil := (List.getElem?_eq_some_iff.1 hx).1; refine ⟨h.out.put hx hk hb hw, ?_, fun j y hy => ?_, h.bit.but hbt (fun y hy e => ?_), h.bl, h.far, h.fl, h.la.but hbt (blk_neT h.la hbl (by decide)), h.ll, h.ls, h.sb.but hbt (blk_neT h.sb hbl (by decide)), h.gle, h.p54, h.bel.trans (hbt.below (Nat.le_trans h.p54 hB) h.bel.size), Nat.le_trans h.sz hbt.size⟩
  · unfold setB
    rw [List.map_set, ← h.pl, List.getD_eq_getElem?_getD, List.getElem?_map, hx]
    rfl
  · by_cases hj : i = j
    · subst hj
      rw [List.getElem?_set_self hil] at hy; injection hy with hy; rw [← hy]; exact h.lt i x hx
    · rw [List.getElem?_set_ne hj] at hy
      exact h.lt j y hy
  · have h1 := h.lt i x hx
    rcases h.far y hy with h2 | h2 <;> omega
end
end Go.Proofs.Ytpjopeojeglogaa

namespace Go.Proofs.Ytpjopeojeglogaa
open Go.RowKit Tt
set_option linter.unusedVariables false
set_option linter.unusedSimpArgs false

/-- one table of codes: the question, from a variable that holds it -/
theorem rmayH_any {w : World} {h : HufM} (k : HufOk w h) (H : Array Value) (hH : (hufC h).toArray = H) :
    Calls Try.prog 68 #[.agg H] w fun e w' => e = .returned (.bool (mayH h)) ∧ Below w.heap.size w w' := by
  have := rmay04_any h.1.1 h.1.2 h.2.1 h.2.2.1 h.2.2.2 w k.len k.sl (by have := k.few; omega); unfold hV at this; rw [← hH]; exact this
set_option maxRecDepth 100000 in
set_option maxHeartbeats 4000000 in
theorem rmay12_any (s : ScT) (pa : Option Addr) (pn pc : Nat) (w : World) (hs : PtsR w pa pn pc s.ps) (hw1 : Wf s.ax) (hw2 : Wf s.dn) (hw3 : Wf s.iv) (hpw : ∀ p ∈ s.ps, Wf p.1 ∧ Wf p.2.1) :
    Calls Try.prog 21 #[.agg #[.int .i64 s.ax, .int .i64 s.dn, .slice pa pn pc, .int .i64 s.iv]] w fun e w' => e = .returned (.bool (mayS s)) ∧ Below w.heap.size w w' := by
  have hl := hs.ilen; have htop := @mayTop_no s; have hbad : ∀ (k : Nat) (p : PtM), s.ps[k]? = some p → mayPt p = false → mayS s = false := fun k p h1 h2 => mayS_bad h1 h2; have hend : mayTop s = true → (∀ (k : Nat) p, s.ps[k]? = some p → mayPt p = true) → mayS s = decide (sumPt s.ps ≤ 10) := mayS_end; have htp : (1 ≤ s.ax ∧ s.ax ≤ 512 ∧ 1 ≤ s.dn ∧ s.dn ≤ 512 ∧ 1 ≤ s.ps.length ∧ s.ps.length ≤ 4 ∧ 0 ≤ s.iv ∧ s.iv ≤ 65535) → mayTop s = true := fun h => decide_eq_true h; obtain ⟨ax, dn, iv, ps⟩ := s; simp only at hs hl htop hbad hend htp hw1 hw2 hw3 hpw ⊢; obtain ⟨R, hR⟩ : ∃ R, mayS ⟨ax, dn, iv, ps⟩ = R := ⟨_, rfl⟩; rw [hR] at htop hend ⊢; have hbad : ∀ (k : Nat) (p : PtM), ps[k]? = some p → mayPt p = false → R = false := fun k p h1 h2 => hR ▸ hbad k p h1 h2; have b1 := Blk.new w 24 #[.int .i64 ax, .int .i64 dn, .slice pa pn pc, .int .i64 iv]; have hb1 := (Below.refl w.heap.size w).alloc (Nat.le_refl _) (.cells #[.int .i64 ax, .int .i64 dn, .slice pa pn pc, .int .i64 iv] 24); obtain ⟨W1, hW1⟩ : ∃ W1, w.alloc (.cells #[.int .i64 ax, .int .i64 dn, .slice pa pn pc, .int .i64 iv] 24) = W1 := ⟨_, rfl⟩; rw [hW1] at b1 hb1; have k0 : W1.cell? ⟨w.heap.size, 0, none⟩ = some (.int .i64 ax) := b1.cell rfl; have k1 : W1.cell? ⟨w.heap.size, 1, none⟩ = some (.int .i64 dn) := b1.cell rfl; have k2 : W1.cell? ⟨w.heap.size, 2, none⟩ = some (.slice pa pn pc) := b1.cell rfl; have k3 : W1.cell? ⟨w.heap.size, 3, none⟩ = some (.int .i64 iv) := b1.cell rfl; rw [hl] at htop htp; have hs' := Lib.hid hs; have hl' := Lib.hid hl; have hR' := Lib.hid hR; have b1' := Lib.hid b1; have hb1' := Lib.hid hb1; have hW1' := Lib.hid hW1; have hpw' := Lib.hid hpw; have hbad' := Lib.hid hbad; have hend' := Lib.hid hend; have htop' := Lib.hid htop; have htp' := Lib.hid htp; clear hs hl hR b1 hb1 hW1 hpw hbad hend htop htp
  go_enter Try.func21, Try.ntmps21
  go_upto_region 1 with fail
  rw [hW1'.out]
  rcases (show (ax < 1) ∨ (¬ ax < 1 ∧ 512 < ax) ∨ (¬ ax < 1 ∧ ¬ 512 < ax ∧ dn < 1) ∨ (¬ ax < 1 ∧ ¬ 512 < ax ∧ ¬ dn < 1 ∧ 512 < dn) ∨ (¬ ax < 1 ∧ ¬ 512 < ax ∧ ¬ dn < 1 ∧ ¬ 512 < dn ∧ (pn : Int) < 1) ∨ (¬ ax < 1 ∧ ¬ 512 < ax ∧ ¬ dn < 1 ∧ ¬ 512 < dn ∧ ¬ (pn : Int) < 1 ∧ 4 < (pn : Int)) ∨ (¬ ax < 1 ∧ ¬ 512 < ax ∧ ¬ dn < 1 ∧ ¬ 512 < dn ∧ ¬ (pn : Int) < 1 ∧ ¬ 4 < (pn : Int) ∧ iv < 0) ∨ (¬ ax < 1 ∧ ¬ 512 < ax ∧ ¬ dn < 1 ∧ ¬ 512 < dn ∧ ¬ (pn : Int) < 1 ∧ ¬ 4 < (pn : Int) ∧ ¬ iv < 0 ∧ 65535 < iv) ∨ (¬ ax < 1 ∧ ¬ 512 < ax ∧ ¬ dn < 1 ∧ ¬ 512 < dn ∧ ¬ (pn : Int) < 1 ∧ ¬ 4 < (pn : Int) ∧ ¬ iv < 0 ∧ ¬ 65535 < iv) by omega) with d1 | ⟨d1, d2⟩ | ⟨d1, d2, d3⟩ | ⟨d1, d2, d3, d4⟩ | ⟨d1, d2, d3, d4, d5⟩ | ⟨d1, d2, d3, d4, d5, d6⟩ | ⟨d1, d2, d3, d4, d5, d6, d7⟩ | ⟨d1, d2, d3, d4, d5, d6, d7, d8⟩ | ⟨d1, d2, d3, d4, d5, d6, d7, d8⟩
  iterate 8
    · obtain rfl : R = false := htop'.out (by omega)
      go_wp2
      go_ret
      exact ⟨rfl, hb1'.out⟩
  have hend2 : (∀ (k : Nat) p, ps[k]? = some p → mayPt p = true) → R = decide (sumPt ps ≤ 10) := hend'.out (htp'.out (by omega)); have hp4 : pn ≤ 4 := by omega
  have hend2' := Lib.hid hend2; clear hend2
  go_wp2
  go_loopw [3, 4, 5] (fun sv jv _ wr => ∃ (k : Nat) (m : Int), k ≤ pn ∧ 0 ≤ m ∧ m ≤ 16 * k ∧ jv = .int .i64 k ∧ sv = .int .i64 m ∧ Hid (m = sumPt (ps.take k)) ∧ Hid (∀ (j : Nat) p, j < k → ps[j]? = some p → mayPt p = true) ∧ Hid (Blk wr w.heap.size 24 #[.int .i64 ax, .int .i64 dn, .slice pa pn pc, .int .i64 iv]) ∧ Hid (Below w.heap.size w wr)) (fun _ jv _ _ => pn - (intOf jv).toNat)
  case atStart => exact ⟨0, 0, by omega, by omega, by omega, rfl, rfl, Lib.hid rfl, Lib.hid (fun j p h => by omega), b1', hb1'⟩
  case round =>
    obtain ⟨k, m, hk, hm0, hm1, rfl, rfl, hsum, hall, hbk, hbel⟩ := hrel; have kp : wr.cell? ⟨w.heap.size, 2, none⟩ = some (.slice pa pn pc) := hbk.out.cell rfl
    by_cases hlt : k < pn
    · obtain ⟨p, hp⟩ : ∃ p, ps[k]? = some p := ⟨_, List.getElem?_eq_getElem (by rw [hl'.out]; exact hlt)⟩
      obtain ⟨bb, o, rfl, hbb, f⟩ := (hs'.out.mono hbel.out).elem hp; have hpm := List.mem_of_getElem? hp; have hpk := (hs'.out.ok p hpm).mono hbel.out; have hpwf := hpw'.out p hpm; obtain ⟨B, hB⟩ : ∃ B, (pC p).toArray = B := ⟨_, rfl⟩; have hcl := pC_len hpk; have hone := pC_one (p := p); have hB36 : B.size = 36 := by rw [← hB]; simpa using hcl
      rw [hB] at hone; obtain ⟨W2, hW2⟩ : ∃ W2, wr.alloc (.cells B 47) = W2 := ⟨_, rfl⟩; have hal := (Below.refl wr.heap.size wr).alloc (Nat.le_refl _) (.cells B 47); have hqb : Blk W2 wr.heap.size 47 B := by rw [← hW2]; exact Blk.new wr 47 B
      rw [hW2] at hal; have hbw := hbel.out.trans (hal.mono hbel.out.size); have hfields := fun W (b : Blk W wr.heap.size 47 B) => pB_cells (p := p) hpk.dc.len (hB ▸ b); have hsn := sumPt_snoc hp; have hbkp := hbad'.out k p hp; obtain ⟨H1, hH1⟩ : ∃ H, (hufC p.2.2.1).toArray = H := ⟨_, rfl⟩; obtain ⟨H2, hH2⟩ : ∃ H, (hufC p.2.2.2).toArray = H := ⟨_, rfl⟩; have hl1 := hufC_len hpk.dc.len; have hl2 := hufC_len hpk.ac.len; have HM1 := fun W (h : Below wr.heap.size wr W) => rmayH_any (hpk.dc.mono h) H1 hH1; have HM2 := fun W (h : Below wr.heap.size wr W) => rmayH_any (hpk.ac.mono h) H2 hH2; obtain ⟨r1, hr1⟩ : ∃ r, mayH p.2.2.1 = r := ⟨_, rfl⟩; obtain ⟨r2, hr2⟩ : ∃ r, mayH p.2.2.2 = r := ⟨_, rfl⟩; rw [hr1] at HM1; rw [hr2] at HM2; have hout := @mayPt_out p; have hdc := @mayPt_dc p; have hac := @mayPt_ac p; have hok := @mayPt_all p; rw [hr1] at hdc hok; rw [hr2] at hac hok; have h4 := @mul_four p.1 p.2.1; obtain ⟨z1, hz1⟩ : ∃ z, p.1 * p.2.1 = z := ⟨_, rfl⟩; rw [hz1] at h4 hsn; obtain ⟨x, hx⟩ : ∃ x, p.1 = x := ⟨_, rfl⟩; obtain ⟨y, hy⟩ : ∃ y, p.2.1 = y := ⟨_, rfl⟩; have hxy : x * y = z1 := by rw [← hx, ← hy]; exact hz1
      obtain ⟨k0, k1, k2, k3⟩ := hfields W2 hqb; rw [hx] at k0; rw [hy] at k1; have hfx : ∀ W, Blk W wr.heap.size 47 B → W.cell? ⟨wr.heap.size, 0, none⟩ = some (.int .i64 x) := fun W b => hx ▸ (hfields W b).1; have hfy : ∀ W, Blk W wr.heap.size 47 B → W.cell? ⟨wr.heap.size, 1, none⟩ = some (.int .i64 y) := fun W b => hy ▸ (hfields W b).2.1; rw [hx, hy] at hout hok h4 hpwf; obtain ⟨hxw, hyw⟩ := hpwf; clear hx hy hz1; have f' := Lib.hid f; have hpk' := Lib.hid hpk; have hB' := Lib.hid hB; have hcl' := Lib.hid hcl; have hp' := Lib.hid hp; have hone' := Lib.hid hone; have hB36' := Lib.hid hB36; have hal' := Lib.hid hal; have hqb' := Lib.hid hqb; have hW2' := Lib.hid hW2; have hbw' := Lib.hid hbw; have hfields' := Lib.hid hfields; have hsn' := Lib.hid hsn; have hbkp' := Lib.hid hbkp; have hH1' := Lib.hid hH1; have hH2' := Lib.hid hH2; have hl1' := Lib.hid hl1; have hl2' := Lib.hid hl2; have HM1' := Lib.hid HM1; have HM2' := Lib.hid HM2; have hr1' := Lib.hid hr1; have hr2' := Lib.hid hr2; have hout' := Lib.hid hout; have hdc' := Lib.hid hdc; have hac' := Lib.hid hac; have hok' := Lib.hid hok; have h4' := Lib.hid h4; have k2' := Lib.hid k2; have k3' := Lib.hid k3; have hfx' := Lib.hid hfx; have hfy' := Lib.hid hfy; clear f hpk hB hcl hp hone hB36 hal hqb hW2 hbw hfields hsn hbkp hH1 hH2 hl1 hl2 HM1 HM2 hr1 hr2 hout hdc hac hok h4 k2 k3 hfx hfy
      go_upto_region 8 with (first
        | (refine wpList_load_at rfl 47 (.tmp 56) rfl bb (o + k * 36) rfl (pC p) B hB'.out _ f'.out Try.underlying47 rfl 36 infoP hcl'.out ?_)
        | (refine wpList_store_row rfl 47 (.tmp 5) (.tmp 57) rfl wr.heap.size B rfl rfl 47 _ (heap_new _ _) (by rw [hB36'.out]; exact infoP) (by rw [hB36'.out]; rfl) hone'.out ?_))
      rw [setRow_alloc, hW2'.out]; clear kp
      rcases (show (x < 1) ∨ (¬ x < 1 ∧ 4 < x) ∨ (¬ x < 1 ∧ ¬ 4 < x ∧ y < 1) ∨ (¬ x < 1 ∧ ¬ 4 < x ∧ ¬ y < 1 ∧ 4 < y) ∨ (¬ x < 1 ∧ ¬ 4 < x ∧ ¬ y < 1 ∧ ¬ 4 < y) by omega) with d1 | ⟨d1, d2⟩ | ⟨d1, d2, d3⟩ | ⟨d1, d2, d3, d4⟩ | ⟨d1, d2, d3, d4⟩
      iterate 4
        · obtain rfl : R = false := hbkp'.out (hout'.out (by omega))
          go_wp2
          go_ret
          exact ⟨rfl, hbw'.out⟩
      have hxy4 := h4'.out (by omega); obtain ⟨hz1, hz2⟩ := hxy4; have k2 := k2'.out
      go_wp2_with (refine wpList_load_atW rfl 45 (.tmp 77) rfl wr.heap.size 2 rfl (hufC p.2.2.1) H1 hH1'.out _ k2 Try.underlying45 rfl 17 infoH17 hl1'.out ?_)
      refine (HM1'.out _ hal'.out).mono ?_; rintro e w2 ⟨rfl, hb2⟩; have hbw2 := hbw'.out.trans (hb2.mono hbw'.out.size); have hb12 := hal'.out.trans (hb2.mono hal'.out.size); have bk2 := hqb'.out.late hb2; have g0 := hfx'.out w2 bk2; have g1 := hfy'.out w2 bk2; have k3 := (hfields'.out w2 bk2).2.2.2; clear k2 k2' k3' hb2 k0 k1
      cases r1 with
      | false =>
        obtain rfl : R = false := hbkp'.out (hdc'.out rfl); have hbw2' := Lib.hid hbw2; have bk2' := Lib.hid bk2; have k3' := Lib.hid k3; have hb12' := Lib.hid hb12; clear hbw2 bk2 k3 hb12
        go_wp2
        go_ret
        exact ⟨rfl, hbw2'.out⟩
      | true =>
        have hbw2' := Lib.hid hbw2; have bk2' := Lib.hid bk2; have hb12' := Lib.hid hb12; clear hbw2 bk2 hb12
        go_wp2_with (refine wpList_load_atW rfl 45 (.tmp 83) rfl wr.heap.size 19 rfl (hufC p.2.2.2) H2 hH2'.out _ k3 Try.underlying45 rfl 17 infoH17 hl2'.out ?_)
        refine (HM2'.out _ hb12'.out).mono ?_; rintro e w3 ⟨rfl, hb3⟩; have hbw3 := hbw2'.out.trans (hb3.mono hbw2'.out.size); have bk3 := bk2'.out.late hb3; have hb13 := hb12'.out.trans (hb3.mono hb12'.out.size); clear hb3 k3 g0 g1; have g0 := hfx'.out w3 bk3; have g1 := hfy'.out w3 bk3
        cases r2 with
        | false =>
          obtain rfl : R = false := hbkp'.out (hac'.out rfl); have hbw3' := Lib.hid hbw3; have bk3' := Lib.hid bk3; clear hbw3 bk3
          go_wp2
          go_ret
          exact ⟨rfl, hbw3'.out⟩
        | true =>
          have hpok := hok'.out (by omega) trivial rfl
          have hall2 : ∀ (j : Nat) (q : PtM), j < k + 1 → ps[j]? = some q → mayPt q = true := fun j q hj hq => by
            rcases Nat.lt_or_ge j k with h | h
            · exact hall.out j q h hq
            · obtain rfl : j = k := by omega
              rw [hp'.out] at hq; injection hq with hq; rw [← hq]; exact hpok
          have hsum2 : m + z1 = sumPt (ps.take (k + 1)) := by rw [hsn'.out, hsum.out]
          have ew1 : IntKind.i64.wrap (x * y) = z1 := by rw [hxy, IntKind.wrap_i64]; omega
          have ew2 : IntKind.i64.wrap (m + z1) = m + z1 := by rw [IntKind.wrap_i64]; omega
          have hbs3 := hbk.out.late hb13; have hbw3' := Lib.hid hbw3; have bk3' := Lib.hid bk3; have hall2' := Lib.hid hall2; have hsum2' := Lib.hid hsum2; have hbs3' := Lib.hid hbs3; clear hbw3 bk3 hall2 hsum2 hbs3
          go_wp2
          go_roundw
          case rel => exact ⟨k + 1, m + z1, by omega, by omega, by omega, by go_num, by go_num, hsum2', hall2', hbs3', hbw3'⟩
          case measure => simp [intOf]; omega
    · have hkn : k = pn := by omega
      subst hkn
      have e1 : R = decide (m ≤ 10) := by
        rw [hend2'.out (fun j p hj => hall.out j p (by rw [← hl'.out]; exact (List.getElem?_eq_some_iff.1 hj).1) hj), hsum.out, List.take_of_length_le (Nat.le_of_eq hl'.out)]
      have e1' := Lib.hid e1; clear e1
      by_cases h10 : m ≤ 10
      · obtain rfl : R = true := by rw [e1'.out]; exact decide_eq_true h10
        go_wp2
        go_ret
        exact ⟨rfl, hbel.out⟩
      · obtain rfl : R = false := by rw [e1'.out]; exact decide_eq_false h10
        go_wp2
        go_ret
        exact ⟨rfl, hbel.out⟩
set_option maxRecDepth 100000 in
set_option maxHeartbeats 2000000 in
theorem rrest12_any (ax dn iv : Int) (pa : Option Addr) (pn pc n : Nat) (w : World) (h0 : 0 ≤ iv) (h1 : iv ≤ 65535) (hn : n ≤ 262144) :
    Calls Try.prog 97 #[.agg #[.int .i64 ax, .int .i64 dn, .slice pa pn pc, .int .i64 iv], .int .i64 n] w fun e w' => e = .returned (.bool (resS iv n)) ∧ Below w.heap.size w w' := by
  obtain ⟨i, rfl⟩ : ∃ i : Nat, iv = i := ⟨iv.toNat, by omega⟩; have b1 := Blk.new w 24 #[.int .i64 ax, .int .i64 dn, .slice pa pn pc, .int .i64 i]; have hb1 := (Below.refl w.heap.size w).alloc (Nat.le_refl _) (.cells #[.int .i64 ax, .int .i64 dn, .slice pa pn pc, .int .i64 i] 24); obtain ⟨W1, hW1⟩ : ∃ W1, w.alloc (.cells #[.int .i64 ax, .int .i64 dn, .slice pa pn pc, .int .i64 i] 24) = W1 := ⟨_, rfl⟩; rw [hW1] at b1 hb1; have k3 : W1.cell? ⟨w.heap.size, 3, none⟩ = some (.int .i64 i) := b1.cell rfl; obtain ⟨Q, hQ⟩ : ∃ Q, resS (i : Int) n = Q := ⟨_, rfl⟩; rw [hQ]; have b1' := Lib.hid b1; have hb1' := Lib.hid hb1; have hW1' := Lib.hid hW1; have hQ' := Lib.hid hQ; clear b1 hb1 hW1 hQ
  go_enter Try.func97, Try.ntmps97
  go_upto_region 1 with fail
  rw [hW1'.out]
  by_cases c1 : (0 : Int) < i
  · by_cases c2 : (0 : Int) < n
    · have e1 : Int.tmod (n : Int) (i : Int) = ((n % i : Nat) : Int) := (Int.ofNat_tmod n i).symm
      obtain ⟨r, hr⟩ : ∃ r, n % i = r := ⟨_, rfl⟩; have hr2 : r ≤ 262144 := by rw [← hr]; exact Nat.le_trans (Nat.mod_le _ _) hn
      rw [hr] at e1; have ine : ¬ (i : Int) = 0 := by omega
      have e2 : IntKind.i64.wrap (r : Int) = r := wrapN (by omega)
      have hres : Q = decide (r = 0) := by
        rw [← hQ'.out]; unfold resS; rw [Int.toNat_natCast, hr]; exact decide_eq_decide.2 ⟨fun h => h.2.2, fun h => ⟨c1, by omega, h⟩⟩
      clear hr
      by_cases c3 : (r : Int) = 0
      · obtain rfl : Q = true := hres.trans (decide_eq_true (by omega))
        clear hres
        go_wp2
        go_ret
        exact ⟨rfl, hb1'.out⟩
      · obtain rfl : Q = false := hres.trans (decide_eq_false (by omega))
        have c4 : ((r : Int) == 0) = false := by simpa using c3
        clear hres
        go_wp2
        go_ret
        exact ⟨rfl, hb1'.out⟩
    · obtain rfl : Q = false := hQ'.out ▸ decide_eq_false (by omega)
      go_wp2
      go_ret
      exact ⟨rfl, hb1'.out⟩
  · obtain rfl : Q = false := hQ'.out ▸ decide_eq_false (by omega)
    go_wp2
    go_ret
    exact ⟨rfl, hb1'.out⟩
end Go.Proofs.Ytpjopeojeglogaa

namespace Go.Proofs.Ytpjopeojeglogaa
open Go.RowKit Tt
set_option linter.unusedVariables false
set_option linter.unusedSimpArgs false

variable {s : ScT} {b : List Int} {U k n r : Nat} {st : RdT}
theorem RdAt.stay (h : RdAt s b U k st) (hU : unitN s.ps = U) (hU0 : 0 < U) (hn : k / U = n) (hr : k % U = r) (hT : (decide (r = 0) && resS s.iv n) = false) : RdIn s b U k st := by
  by_cases hr0 : r = 0
  · rcases Nat.eq_zero_or_pos k with rfl | hk
    · exact h.zero hU0
    · have h1 := h.new hU (by omega) hk
      refine RdIn.of_new h1 hU0 (by omega) (startR_no ?_ ?_)
      · intro h2
        have := Nat.div_add_mod k U; rw [h2, Nat.mul_zero, hr, hr0] at this
        omega
      · rw [hr0] at hT
        rw [hn]
        simpa using hT
  · exact h.mid (by omega)
theorem RdAt.turn (h : RdAt s b U k st) (hU : unitN s.ps = U) (hn : k / U = n) (hr : k % U = r) (hT : (decide (r = 0) && resS s.iv n) = true) :
    0 < n ∧ 0 < s.iv ∧ n % s.iv.toNat = 0 ∧ (List.range (k / U)).foldlM (rdU s) (rd0 s b) = .ok st ∧ startR s st (k / U) = (againR s.iv n st.B st.rest).map fun q => ⟨st.bl, q.1, q.2, List.replicate s.ps.length 0⟩ := by
  rw [Bool.and_eq_true, decide_eq_true_eq] at hT; obtain ⟨hr0, hres⟩ := hT; have hres2 := hres; unfold resS at hres2; rw [decide_eq_true_eq] at hres2; obtain ⟨h1, h2, h3⟩ := hres2
  have hk : 0 < k := by
    rcases Nat.eq_zero_or_pos k with rfl | hk
    · rw [Nat.zero_div] at hn; omega
    · exact hk
  refine ⟨h2, h1, h3, h.new hU (by omega) hk, ?_⟩; rw [hn]; exact startR_res (by omega) hres
/-- the block whose turn it is -/
theorem RdIn.block (h : RdIn s b U k st) {x : Nat × Nat} {p : PtM} (hp : s.ps[x.1]? = some p) :
    rdB s.ps st x = (blkR p (st.last.getD x.1 0) 65 [] st.B).map fun q => ⟨setB st.bl x q.1, q.2, st.rest, st.last.set x.1 (q.1.getD 0 0)⟩ := by unfold rdB; rw [hp]; rfl
theorem tail_piece {α : Type} {l : List ((List Int × Int) × α)} {A : Nat} {rest : List Int} (h : (l.map (·.1)).drop A = tailP rest) {q : (List Int × Int) × α} (hq : l[A]? = some q) : tailP rest = q.1 :: (l.map (·.1)).drop (A + 1) := by
  have hA := (List.getElem?_eq_some_iff.1 hq).1; rw [← h, List.drop_eq_getElem_cons (by rw [List.length_map]; exact hA)]
  congr 1
  rw [List.getElem_map]; obtain ⟨_, e⟩ := List.getElem?_eq_some_iff.1 hq; rw [e]
theorem tail_none {α : Type} {l : List ((List Int × Int) × α)} {A : Nat} {rest : List Int} (h : (l.map (·.1)).drop A = tailP rest) (hA : l.length ≤ A) : tailP rest = [] := by
  rw [← h]; exact List.drop_of_length_le (by rw [List.length_map]; exact hA)
end Go.Proofs.Ytpjopeojeglogaa
