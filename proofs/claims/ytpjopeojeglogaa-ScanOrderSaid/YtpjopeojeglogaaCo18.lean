/- Chapter 12: a scan as it lies in memory; which scans may be (plain). | Chapter 12: whether a scan may be: the program. -/
import Derived.Test.YtpjopeojeglogaaCo17
namespace Go.Proofs.Ytpjopeojeglogaa
open Go.RowKit Tt
set_option linter.unusedVariables false
set_option linter.unusedSimpArgs false

/-- a table of codes with the place of its symbols -/
abbrev HufM := (List Int × List Int) × Option Addr × Nat × Nat
def hufC (h : HufM) : List Value := ints .i64 h.1.1 ++ [.slice h.2.1 h.2.2.1 h.2.2.2]
structure HufOk (w : World) (h : HufM) : Prop where
  len : h.1.1.length = 16
  sl : Sl w h.2.1 h.2.2.1 h.2.2.2 1 (ints .i64 h.1.2)
  few : h.2.2.1 ≤ 1000
  wf : ∀ x ∈ h.1.2, (Lit.int .i64 x).wf = true
theorem HufOk.mono {w w' : World} {h : HufM} (k : HufOk w h) (hb : Below w.heap.size w w') : HufOk w' h := ⟨k.len, k.sl.mono hb, k.few, k.wf⟩
theorem hufC_len {h : HufM} (hl : h.1.1.length = 16) : (hufC h).length = 17 := by simp [hufC, ints_len, hl]
/-- a plane -/
abbrev PtM := Int × Int × HufM × HufM
def pC (p : PtM) : List Value := .int .i64 p.1 :: .int .i64 p.2.1 :: (hufC p.2.2.1 ++ hufC p.2.2.2)
structure PtOk (w : World) (p : PtM) : Prop where
  dc : HufOk w p.2.2.1
  ac : HufOk w p.2.2.2
theorem PtOk.mono {w w' : World} {p : PtM} (h : PtOk w p) (hb : Below w.heap.size w w') : PtOk w' p := ⟨h.dc.mono hb, h.ac.mono hb⟩
theorem pC_len {w : World} {p : PtM} (h : PtOk w p) : (pC p).length = 36 := by simp [pC, hufC_len h.dc.len, hufC_len h.ac.len]
/-- planes in a row -/
structure PtsR (w : World) (a : Option Addr) (n c : Nat) (ps : List PtM) : Prop where
  sl : Sl w a n c 36 ((ps.map pC).flatten)
  ok : ∀ p ∈ ps, PtOk w p
theorem PtsR.mono {w w' : World} {a : Option Addr} {n c : Nat} {ps : List PtM} (h : PtsR w a n c ps) (hb : Below w.heap.size w w') : PtsR w' a n c ps := ⟨h.sl.mono hb, fun p hp => (h.ok p hp).mono hb⟩
theorem PtsR.ilen {w : World} {a : Option Addr} {n c : Nat} {ps : List PtM} (h : PtsR w a n c ps) : ps.length = n := by
  have h1 := h.sl.len; rw [flat_len pC 36 ps (fun p hp => pC_len (h.ok p hp))] at h1
  omega
theorem PtsR.elem {w : World} {a : Option Addr} {n c : Nat} {ps : List PtM} (h : PtsR w a n c ps) {k : Nat} {p : PtM} (hp : ps[k]? = some p) :
    ∃ b o, a = some ⟨b, o, none⟩ ∧ b < w.heap.size ∧ ∀ j v, (pC p)[j]? = some v → w.cell? ⟨b, o + k * 36 + j, none⟩ = some v := by
  have hk : k < n := by rw [← h.ilen]; exact (List.getElem?_eq_some_iff.1 hp).1
  obtain ⟨b, o, e, hb, _, hc⟩ := h.sl.elem hk; rw [flat_elem pC 36 ps (fun p hp => pC_len (h.ok p hp)) k p hp] at hc; exact ⟨b, o, e, hb, hc⟩
theorem infoP : (Try.prog.info? 47).map (·.size) = some 36 := by kernel_rfl
theorem hufC_one {h : HufM} : ∀ x ∈ hufC h, x.oneCell' = true := fun x hx => by
  rcases List.mem_append.1 hx with hx | hx
  · exact ints_one x hx
  · rw [List.mem_singleton.1 hx]; rfl
theorem pC_one {p : PtM} : (pC p).toArray.all (·.oneCell') = true := by
  rw [Array.all_eq_true_iff_forall_mem]; intro x hx; have hx : x ∈ pC p := by simpa using hx
  rcases List.mem_cons.1 hx with rfl | hx
  · rfl
  · rcases List.mem_cons.1 hx with rfl | hx
    · rfl
    · rcases List.mem_append.1 hx with hx | hx
      · exact hufC_one x hx
      · exact hufC_one x hx
/-- the fields of a plane's variable -/
theorem pB_cells {w : World} {g : Nat} {p : PtM} (hd : p.2.2.1.1.1.length = 16) (h : Blk w g 47 (pC p).toArray) :
    w.cell? ⟨g, 0, none⟩ = some (.int .i64 p.1) ∧ w.cell? ⟨g, 1, none⟩ = some (.int .i64 p.2.1) ∧ (∀ j v, (hufC p.2.2.1)[j]? = some v → w.cell? ⟨g, 2 + j, none⟩ = some v) ∧ (∀ j v, (hufC p.2.2.2)[j]? = some v → w.cell? ⟨g, 19 + j, none⟩ = some v) := by
  refine ⟨h.cell rfl, h.cell rfl, fun j v hv => h.cell ?_, fun j v hv => h.cell ?_⟩
  · rw [List.getElem?_toArray, Nat.add_comm]
    show ((hufC p.2.2.1 ++ hufC p.2.2.2))[j]? = _
    rw [List.getElem?_append_left (List.getElem?_eq_some_iff.1 hv).1, hv]
  · rw [List.getElem?_toArray, show 19 + j = (17 + j) + 1 + 1 by omega]
    show ((hufC p.2.2.1 ++ hufC p.2.2.2))[17 + j]? = _
    rw [List.getElem?_append_right (by rw [hufC_len hd]; omega), hufC_len hd, Nat.add_sub_cancel_left, hv]
/-- which scans may be -/
def mayH (h : HufM) : Bool := hMay h.1.1 h.1.2
def mayPt (p : PtM) : Bool := decide (1 ≤ p.1 ∧ p.1 ≤ 4 ∧ 1 ≤ p.2.1 ∧ p.2.1 ≤ 4) && mayH p.2.2.1 && mayH p.2.2.2
def sumPt (ps : List PtM) : Int := (ps.map fun p => p.1 * p.2.1).sum
structure ScT where
  ax : Int
  dn : Int
  iv : Int
  ps : List PtM
def mayTop (s : ScT) : Bool := decide (1 ≤ s.ax ∧ s.ax ≤ 512 ∧ 1 ≤ s.dn ∧ s.dn ≤ 512 ∧ 1 ≤ s.ps.length ∧ s.ps.length ≤ 4 ∧ 0 ≤ s.iv ∧ s.iv ≤ 65535)
def mayS (s : ScT) : Bool := mayTop s && s.ps.all mayPt && decide (sumPt s.ps ≤ 10)
theorem mayS_top {s : ScT} (h : mayTop s = false) : mayS s = false := by unfold mayS; rw [h]; rfl
theorem mayS_bad {s : ScT} {k : Nat} {p : PtM} (h : s.ps[k]? = some p) (hp : mayPt p = false) : mayS s = false := by
  unfold mayS; have : s.ps.all mayPt = false := List.all_eq_false.2 ⟨p, List.mem_of_getElem? h, by rw [hp]; simp⟩; rw [this, Bool.and_false]
  rfl
theorem mayS_end {s : ScT} (h : mayTop s = true) (hp : ∀ (k : Nat) p, s.ps[k]? = some p → mayPt p = true) : mayS s = decide (sumPt s.ps ≤ 10) := by
  unfold mayS; rw [h, List.all_eq_true.2 (fun p hp' => by obtain ⟨k, hk, rfl⟩ := List.mem_iff_getElem.1 hp'; exact hp k _ (List.getElem?_eq_getElem hk))]
  rfl
theorem sumPt_snoc {ps : List PtM} {k : Nat} {p : PtM} (h : ps[k]? = some p) : sumPt (ps.take (k + 1)) = sumPt (ps.take k) + p.1 * p.2.1 := by
  unfold sumPt; rw [List.take_add_one, h, List.map_append, List.sum_append]
  simp
theorem mayPt_bd {p : PtM} (h : mayPt p = true) : 1 ≤ p.1 ∧ p.1 ≤ 4 ∧ 1 ≤ p.2.1 ∧ p.2.1 ≤ 4 ∧ mayH p.2.2.1 = true ∧ mayH p.2.2.2 = true := by
  unfold mayPt at h; simp only [Bool.and_eq_true, decide_eq_true_eq] at h; exact ⟨h.1.1.1, h.1.1.2.1, h.1.1.2.2.1, h.1.1.2.2.2, h.1.2, h.2⟩
end Go.Proofs.Ytpjopeojeglogaa

namespace Go.Proofs.Ytpjopeojeglogaa
open Go.RowKit Tt
set_option linter.unusedVariables false
set_option linter.unusedSimpArgs false

theorem mayTop_no {s : ScT} (h : ¬ (1 ≤ s.ax ∧ s.ax ≤ 512 ∧ 1 ≤ s.dn ∧ s.dn ≤ 512 ∧ 1 ≤ s.ps.length ∧ s.ps.length ≤ 4 ∧ 0 ≤ s.iv ∧ s.iv ≤ 65535)) : mayS s = false := mayS_top (decide_eq_false h)
theorem mayPt_out {p : PtM} (h : ¬ (1 ≤ p.1 ∧ p.1 ≤ 4 ∧ 1 ≤ p.2.1 ∧ p.2.1 ≤ 4)) : mayPt p = false := by
  unfold mayPt; rw [decide_eq_false h]; rfl
theorem mayPt_dc {p : PtM} (h : mayH p.2.2.1 = false) : mayPt p = false := by
  unfold mayPt; rw [h, Bool.and_false]; rfl
theorem mayPt_ac {p : PtM} (h : mayH p.2.2.2 = false) : mayPt p = false := by
  unfold mayPt; rw [h, Bool.and_false]
theorem mayPt_all {p : PtM} (h : 1 ≤ p.1 ∧ p.1 ≤ 4 ∧ 1 ≤ p.2.1 ∧ p.2.1 ≤ 4) (h1 : mayH p.2.2.1 = true) (h2 : mayH p.2.2.2 = true) : mayPt p = true := by
  unfold mayPt; rw [decide_eq_true h, h1, h2]; rfl
/-- one table of codes: the question, from a variable that holds it -/
theorem mayH_any {w : World} {h : HufM} (k : HufOk w h) (H : Array Value) (hH : (hufC h).toArray = H) :
    Calls Try.prog 72 #[.agg H] w fun e w' => e = .returned (.bool (mayH h)) ∧ Below w.heap.size w w' := by
  have := pmay04_any h.1.1 h.1.2 h.2.1 h.2.2.1 h.2.2.2 w k.len k.sl k.wf (by have := k.few; omega); unfold hV at this; rw [← hH]; exact this
theorem mul_four {x y : Int} (h : 1 ≤ x ∧ x ≤ 4 ∧ 1 ≤ y ∧ y ≤ 4) : 1 ≤ x * y ∧ x * y ≤ 16 := by
  obtain ⟨h1, h2, h3, h4⟩ := h; have e1 : 1 * 1 ≤ x * y := Int.mul_le_mul h1 h3 (by omega) (by omega); have e2 : x * y ≤ 4 * 4 := Int.mul_le_mul h2 h4 (by omega) (by omega)
  omega
set_option maxRecDepth 100000 in
set_option maxHeartbeats 4000000 in
theorem scmay_any (s : ScT) (pa : Option Addr) (pn pc : Nat) (w : World) (hs : PtsR w pa pn pc s.ps) (hw1 : Wf s.ax) (hw2 : Wf s.dn) (hw3 : Wf s.iv) (hpw : ∀ p ∈ s.ps, Wf p.1 ∧ Wf p.2.1) :
    Calls Try.prog 22 #[.agg #[.int .i64 s.ax, .int .i64 s.dn, .slice pa pn pc, .int .i64 s.iv]] w fun e w' => e = .returned (.bool (mayS s)) ∧ Below w.heap.size w w' := by
  have hl := hs.ilen; have htop := @mayTop_no s; have hbad : ∀ (k : Nat) (p : PtM), s.ps[k]? = some p → mayPt p = false → mayS s = false := fun k p h1 h2 => mayS_bad h1 h2; have hend : mayTop s = true → (∀ (k : Nat) p, s.ps[k]? = some p → mayPt p = true) → mayS s = decide (sumPt s.ps ≤ 10) := mayS_end; have htp : (1 ≤ s.ax ∧ s.ax ≤ 512 ∧ 1 ≤ s.dn ∧ s.dn ≤ 512 ∧ 1 ≤ s.ps.length ∧ s.ps.length ≤ 4 ∧ 0 ≤ s.iv ∧ s.iv ≤ 65535) → mayTop s = true := fun h => decide_eq_true h; obtain ⟨ax, dn, iv, ps⟩ := s; simp only at hs hl htop hbad hend htp hw1 hw2 hw3 hpw ⊢; obtain ⟨R, hR⟩ : ∃ R, mayS ⟨ax, dn, iv, ps⟩ = R := ⟨_, rfl⟩; rw [hR] at htop hend ⊢; have hbad : ∀ (k : Nat) (p : PtM), ps[k]? = some p → mayPt p = false → R = false := fun k p h1 h2 => hR ▸ hbad k p h1 h2; have b1 := Blk.new w 24 #[.int .i64 ax, .int .i64 dn, .slice pa pn pc, .int .i64 iv]; have hb1 := (Below.refl w.heap.size w).alloc (Nat.le_refl _) (.cells #[.int .i64 ax, .int .i64 dn, .slice pa pn pc, .int .i64 iv] 24); obtain ⟨W1, hW1⟩ : ∃ W1, w.alloc (.cells #[.int .i64 ax, .int .i64 dn, .slice pa pn pc, .int .i64 iv] 24) = W1 := ⟨_, rfl⟩; rw [hW1] at b1 hb1; have k0 : W1.cell? ⟨w.heap.size, 0, none⟩ = some (.int .i64 ax) := b1.cell rfl; have k1 : W1.cell? ⟨w.heap.size, 1, none⟩ = some (.int .i64 dn) := b1.cell rfl; have k2 : W1.cell? ⟨w.heap.size, 2, none⟩ = some (.slice pa pn pc) := b1.cell rfl; have k3 : W1.cell? ⟨w.heap.size, 3, none⟩ = some (.int .i64 iv) := b1.cell rfl; rw [hl] at htop htp; have hs' := Lib.hid hs; have hl' := Lib.hid hl; have hR' := Lib.hid hR; have b1' := Lib.hid b1; have hb1' := Lib.hid hb1; have hW1' := Lib.hid hW1; have hpw' := Lib.hid hpw; have hbad' := Lib.hid hbad; have hend' := Lib.hid hend; have htop' := Lib.hid htop; have htp' := Lib.hid htp; clear hs hl hR b1 hb1 hW1 hpw hbad hend htop htp
  go_enter Try.func22, Try.ntmps22
  go_upto_region 1 with fail
  rw [hW1'.out]
  rcases (show (ax < 1) ∨ (¬ ax < 1 ∧ dn < 1) ∨ (¬ ax < 1 ∧ ¬ dn < 1 ∧ 512 < ax) ∨ (¬ ax < 1 ∧ ¬ dn < 1 ∧ ¬ 512 < ax ∧ 512 < dn) ∨ (¬ ax < 1 ∧ ¬ dn < 1 ∧ ¬ 512 < ax ∧ ¬ 512 < dn ∧ (pn : Int) < 1) ∨ (¬ ax < 1 ∧ ¬ dn < 1 ∧ ¬ 512 < ax ∧ ¬ 512 < dn ∧ ¬ (pn : Int) < 1 ∧ 4 < (pn : Int)) ∨ (¬ ax < 1 ∧ ¬ dn < 1 ∧ ¬ 512 < ax ∧ ¬ 512 < dn ∧ ¬ (pn : Int) < 1 ∧ ¬ 4 < (pn : Int) ∧ iv < 0) ∨ (¬ ax < 1 ∧ ¬ dn < 1 ∧ ¬ 512 < ax ∧ ¬ 512 < dn ∧ ¬ (pn : Int) < 1 ∧ ¬ 4 < (pn : Int) ∧ ¬ iv < 0 ∧ 65535 < iv) ∨ (¬ ax < 1 ∧ ¬ dn < 1 ∧ ¬ 512 < ax ∧ ¬ 512 < dn ∧ ¬ (pn : Int) < 1 ∧ ¬ 4 < (pn : Int) ∧ ¬ iv < 0 ∧ ¬ 65535 < iv) by omega) with c1 | ⟨c1, c2⟩ | ⟨c1, c2, c3⟩ | ⟨c1, c2, c3, c4⟩ | ⟨c1, c2, c3, c4, c5⟩ | ⟨c1, c2, c3, c4, c5, c6⟩ | ⟨c1, c2, c3, c4, c5, c6, c7⟩ | ⟨c1, c2, c3, c4, c5, c6, c7, c8⟩ | ⟨c1, c2, c3, c4, c5, c6, c7, c8⟩
  iterate 8
    · obtain rfl : R = false := htop'.out (by omega)
      go_wp2
      go_ret
      exact ⟨rfl, hb1'.out⟩
  have hend2 : (∀ (k : Nat) p, ps[k]? = some p → mayPt p = true) → R = decide (sumPt ps ≤ 10) := hend'.out (htp'.out (by omega)); have hp4 : pn ≤ 4 := by omega
  have hend2' := Lib.hid hend2; clear hend2
  go_wp2
  go_loopw [3, 5, 49] (fun sv _ iv wr => ∃ (k : Nat) (m : Int), k ≤ pn ∧ 0 ≤ m ∧ m ≤ 16 * k ∧ iv = .int .i64 k ∧ sv = .int .i64 m ∧ Hid (m = sumPt (ps.take k)) ∧ Hid (∀ (j : Nat) p, j < k → ps[j]? = some p → mayPt p = true) ∧ Hid (Below w.heap.size w wr)) (fun _ _ iv _ => pn - (intOf iv).toNat)
  case atStart => exact ⟨0, 0, by omega, by omega, by omega, rfl, rfl, Lib.hid rfl, Lib.hid (fun j p h => by omega), hb1'⟩
  case round =>
    obtain ⟨k, m, hk, hm0, hm1, rfl, rfl, hsum, hall, hbel⟩ := hrel
    by_cases hlt : k < pn
    · obtain ⟨p, hp⟩ : ∃ p, ps[k]? = some p := ⟨_, List.getElem?_eq_getElem (by rw [hl'.out]; exact hlt)⟩
      obtain ⟨bb, o, rfl, hbb, f⟩ := (hs'.out.mono hbel.out).elem hp; have hpm := List.mem_of_getElem? hp; have hpk := (hs'.out.ok p hpm).mono hbel.out; have hpwf := hpw'.out p hpm; obtain ⟨B, hB⟩ : ∃ B, (pC p).toArray = B := ⟨_, rfl⟩; have hcl := pC_len hpk; have hone := pC_one (p := p); have hB36 : B.size = 36 := by rw [← hB]; simpa using hcl
      rw [hB] at hone; obtain ⟨W2, hW2⟩ : ∃ W2, wr.alloc (.cells B 47) = W2 := ⟨_, rfl⟩; have hal := (Below.refl wr.heap.size wr).alloc (Nat.le_refl _) (.cells B 47); have hqb : Blk W2 wr.heap.size 47 B := by rw [← hW2]; exact Blk.new wr 47 B
      rw [hW2] at hal; have hbw := hbel.out.trans (hal.mono hbel.out.size); have hfields := fun W (b : Blk W wr.heap.size 47 B) => pB_cells (p := p) hpk.dc.len (hB ▸ b); have hsn := sumPt_snoc hp; have hbk := hbad'.out k p hp; obtain ⟨H1, hH1⟩ : ∃ H, (hufC p.2.2.1).toArray = H := ⟨_, rfl⟩; obtain ⟨H2, hH2⟩ : ∃ H, (hufC p.2.2.2).toArray = H := ⟨_, rfl⟩; have hl1 := hufC_len hpk.dc.len; have hl2 := hufC_len hpk.ac.len; have HM1 := fun W (h : Below wr.heap.size wr W) => mayH_any (hpk.dc.mono h) H1 hH1; have HM2 := fun W (h : Below wr.heap.size wr W) => mayH_any (hpk.ac.mono h) H2 hH2; obtain ⟨r1, hr1⟩ : ∃ r, mayH p.2.2.1 = r := ⟨_, rfl⟩; obtain ⟨r2, hr2⟩ : ∃ r, mayH p.2.2.2 = r := ⟨_, rfl⟩; rw [hr1] at HM1; rw [hr2] at HM2; have hout := @mayPt_out p; have hdc := @mayPt_dc p; have hac := @mayPt_ac p; have hok := @mayPt_all p; rw [hr1] at hdc hok; rw [hr2] at hac hok; have h4 := @mul_four p.1 p.2.1; obtain ⟨z1, hz1⟩ : ∃ z, p.1 * p.2.1 = z := ⟨_, rfl⟩; rw [hz1] at h4 hsn; obtain ⟨x, hx⟩ : ∃ x, p.1 = x := ⟨_, rfl⟩; obtain ⟨y, hy⟩ : ∃ y, p.2.1 = y := ⟨_, rfl⟩; have hxy : x * y = z1 := by rw [← hx, ← hy]; exact hz1
      obtain ⟨k0, k1, k2, k3⟩ := hfields W2 hqb; rw [hx] at k0; rw [hy] at k1; have hfx : ∀ W, Blk W wr.heap.size 47 B → W.cell? ⟨wr.heap.size, 0, none⟩ = some (.int .i64 x) := fun W b => hx ▸ (hfields W b).1; have hfy : ∀ W, Blk W wr.heap.size 47 B → W.cell? ⟨wr.heap.size, 1, none⟩ = some (.int .i64 y) := fun W b => hy ▸ (hfields W b).2.1; rw [hx, hy] at hout hok h4 hpwf; obtain ⟨hxw, hyw⟩ := hpwf; clear hx hy hz1; have f' := Lib.hid f; have hpk' := Lib.hid hpk; have hB' := Lib.hid hB; have hcl' := Lib.hid hcl; have hp' := Lib.hid hp; have hone' := Lib.hid hone; have hB36' := Lib.hid hB36; have hal' := Lib.hid hal; have hqb' := Lib.hid hqb; have hW2' := Lib.hid hW2; have hbw' := Lib.hid hbw; have hfields' := Lib.hid hfields; have hsn' := Lib.hid hsn; have hbk' := Lib.hid hbk; have hH1' := Lib.hid hH1; have hH2' := Lib.hid hH2; have hl1' := Lib.hid hl1; have hl2' := Lib.hid hl2; have HM1' := Lib.hid HM1; have HM2' := Lib.hid HM2; have hr1' := Lib.hid hr1; have hr2' := Lib.hid hr2; have hout' := Lib.hid hout; have hdc' := Lib.hid hdc; have hac' := Lib.hid hac; have hok' := Lib.hid hok; have h4' := Lib.hid h4; have k2' := Lib.hid k2; have k3' := Lib.hid k3; have hfx' := Lib.hid hfx; have hfy' := Lib.hid hfy; clear f hpk hB hcl hp hone hB36 hal hqb hW2 hbw hfields hsn hbk hH1 hH2 hl1 hl2 HM1 HM2 hr1 hr2 hout hdc hac hok h4 k2 k3 hfx hfy
      go_upto_region 7 with (first
        | (refine wpList_load_at rfl 47 (.tmp 51) rfl bb (o + k * 36) rfl (pC p) B hB'.out _ f'.out Try.underlying47 rfl 36 infoP hcl'.out ?_)
        | (refine wpList_store_row rfl 47 (.tmp 5) (.tmp 52) rfl wr.heap.size B rfl rfl 47 _ (heap_new _ _) (by rw [hB36'.out]; exact infoP) (by rw [hB36'.out]; rfl) hone'.out ?_))
      rw [setRow_alloc, hW2'.out]
      rcases (show (x < 1) ∨ (¬ x < 1 ∧ 4 < x) ∨ (¬ x < 1 ∧ ¬ 4 < x ∧ y < 1) ∨ (¬ x < 1 ∧ ¬ 4 < x ∧ ¬ y < 1 ∧ 4 < y) ∨ (¬ x < 1 ∧ ¬ 4 < x ∧ ¬ y < 1 ∧ ¬ 4 < y) by omega) with d1 | ⟨d1, d2⟩ | ⟨d1, d2, d3⟩ | ⟨d1, d2, d3, d4⟩ | ⟨d1, d2, d3, d4⟩
      iterate 4
        · obtain rfl : R = false := hbk'.out (hout'.out (by omega))
          go_wp2
          go_ret
          exact ⟨rfl, hbw'.out⟩
      have hxy4 := h4'.out (by omega); obtain ⟨hz1, hz2⟩ := hxy4; have k2 := k2'.out
      go_wp2_with (refine wpList_load_atW rfl 45 (.tmp 72) rfl wr.heap.size 2 rfl (hufC p.2.2.1) H1 hH1'.out _ k2 Try.underlying45 rfl 17 infoH17 hl1'.out ?_)
      refine (HM1'.out _ hal'.out).mono ?_; rintro e w2 ⟨rfl, hb2⟩; have hbw2 := hbw'.out.trans (hb2.mono hbw'.out.size); have hb12 := hal'.out.trans (hb2.mono hal'.out.size); have bk2 := hqb'.out.late hb2; have g0 := hfx'.out w2 bk2; have g1 := hfy'.out w2 bk2; have k3 := (hfields'.out w2 bk2).2.2.2; clear k2 k2' k3' hb2 k0 k1
      cases r1 with
      | false =>
        obtain rfl : R = false := hbk'.out (hdc'.out rfl); have hbw2' := Lib.hid hbw2; have bk2' := Lib.hid bk2; have k3' := Lib.hid k3; have hb12' := Lib.hid hb12; clear hbw2 bk2 k3 hb12
        go_wp2
        go_ret
        exact ⟨rfl, hbw2'.out⟩
      | true =>
        have hbw2' := Lib.hid hbw2; have bk2' := Lib.hid bk2; have hb12' := Lib.hid hb12; clear hbw2 bk2 hb12
        go_wp2_with (refine wpList_load_atW rfl 45 (.tmp 78) rfl wr.heap.size 19 rfl (hufC p.2.2.2) H2 hH2'.out _ k3 Try.underlying45 rfl 17 infoH17 hl2'.out ?_)
        refine (HM2'.out _ hb12'.out).mono ?_; rintro e w3 ⟨rfl, hb3⟩; have hbw3 := hbw2'.out.trans (hb3.mono hbw2'.out.size); have bk3 := bk2'.out.late hb3; clear hb3 k3 g0 g1; have g0 := hfx'.out w3 bk3; have g1 := hfy'.out w3 bk3
        cases r2 with
        | false =>
          obtain rfl : R = false := hbk'.out (hac'.out rfl); have hbw3' := Lib.hid hbw3; have bk3' := Lib.hid bk3; clear hbw3 bk3
          go_wp2
          go_ret
          exact ⟨rfl, hbw3'.out⟩
        | true =>
          have hpok := hok'.out (by omega) trivial rfl
          have hall2 : ∀ (j : Nat) (q : PtM), j < k + 1 → ps[j]? = some q → mayPt q = true := fun j q hj hq => by
            rcases Nat.lt_or_ge j k with h | h
            · exact hall.out j q h hq
            · obtain rfl : j = k := by omega
              rw [hp'.out] at hq; injection hq with hq; rw [← hq]; exact hpok
          have hsum2 : m + z1 = sumPt (ps.take (k + 1)) := by rw [hsn'.out, hsum.out]
          have ew1 : IntKind.i64.wrap (x * y) = z1 := by rw [hxy, IntKind.wrap_i64]; omega
          have ew2 : IntKind.i64.wrap (m + z1) = m + z1 := by rw [IntKind.wrap_i64]; omega
          have hbw3' := Lib.hid hbw3; have bk3' := Lib.hid bk3; have hall2' := Lib.hid hall2; have hsum2' := Lib.hid hsum2; clear hbw3 bk3 hall2 hsum2
          go_wp2
          go_roundw
          case rel => exact ⟨k + 1, m + z1, by omega, by omega, by omega, by go_num, by go_num, hsum2', hall2', hbw3'⟩
          case measure => simp [intOf]; omega
    · have hkn : k = pn := by omega
      subst hkn
      have e1 : R = decide (m ≤ 10) := by
        rw [hend2'.out (fun j p hj => hall.out j p (by rw [← hl'.out]; exact (List.getElem?_eq_some_iff.1 hj).1) hj), hsum.out, List.take_of_length_le (Nat.le_of_eq hl'.out)]
      have e1' := Lib.hid e1; clear e1
      by_cases h10 : m ≤ 10
      · obtain rfl : R = true := by rw [e1'.out]; exact decide_eq_true h10
        go_wp2
        go_ret
        exact ⟨rfl, hbel.out⟩
      · obtain rfl : R = false := by rw [e1'.out]; exact decide_eq_false h10
        go_wp2
        go_ret
        exact ⟨rfl, hbel.out⟩
end Go.Proofs.Ytpjopeojeglogaa
