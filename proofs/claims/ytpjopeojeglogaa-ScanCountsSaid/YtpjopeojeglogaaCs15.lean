/- Chapter 12: whether a scan may be: the program. | Chapter 12: the blocks of a unit: the program. -/
import Derived.Test.YtpjopeojeglogaaCs14
namespace Go.Proofs.Ytpjopeojeglogaa
open Go.RowKit Tt
set_option linter.unusedVariables false
set_option linter.unusedSimpArgs false

theorem mayTop_no {s : ScT} (h : ¬ (1 ≤ s.ax ∧ s.ax ≤ 512 ∧ 1 ≤ s.dn ∧ s.dn ≤ 512 ∧ 1 ≤ s.ps.length ∧ s.ps.length ≤ 4 ∧ 0 ≤ s.iv ∧ s.iv ≤ 65535)) : mayS s = false := mayS_top (decide_eq_false h)
theorem mayPt_out {p : PtM} (h : ¬ (1 ≤ p.1 ∧ p.1 ≤ 4 ∧ 1 ≤ p.2.1 ∧ p.2.1 ≤ 4)) : mayPt p = false := by
  unfold mayPt; rw [decide_eq_false h]; rfl
theorem mayPt_dc {p : PtM} (h : mayH p.2.2.1 = false) : mayPt p = false := by
  unfold mayPt; rw [h, Bool.and_false]; rfl
theorem mayPt_ac {p : PtM} (h : mayH p.2.2.2 = false) : mayPt p = false := by
  unfold mayPt; rw [h, Bool.and_false]
theorem mayPt_all {p : PtM} (h : 1 ≤ p.1 ∧ p.1 ≤ 4 ∧ 1 ≤ p.2.1 ∧ p.2.1 ≤ 4) (h1 : mayH p.2.2.1 = true) (h2 : mayH p.2.2.2 = true) : mayPt p = true := by
  unfold mayPt; rw [decide_eq_true h, h1, h2]; rfl
/-- one table of codes: the question, from a variable that holds it -/
theorem mayH_any {w : World} {h : HufM} (k : HufOk w h) (H : Array Value) (hH : (hufC h).toArray = H) :
    Calls Try.prog 72 #[.agg H] w fun e w' => e = .returned (.bool (mayH h)) ∧ Below w.heap.size w w' := by
  have := pmay04_any h.1.1 h.1.2 h.2.1 h.2.2.1 h.2.2.2 w k.len k.sl k.wf (by have := k.few; omega); unfold hV at this; rw [← hH]; exact this
theorem mul_four {x y : Int} (h : 1 ≤ x ∧ x ≤ 4 ∧ 1 ≤ y ∧ y ≤ 4) : 1 ≤ x * y ∧ x * y ≤ 16 := by
  obtain ⟨h1, h2, h3, h4⟩ := h; have e1 : 1 * 1 ≤ x * y := Int.mul_le_mul h1 h3 (by omega) (by omega); have e2 : x * y ≤ 4 * 4 := Int.mul_le_mul h2 h4 (by omega) (by omega)
  omega
set_option maxRecDepth 100000 in
set_option maxHeartbeats 4000000 in
theorem scmay_any (s : ScT) (pa : Option Addr) (pn pc : Nat) (w : World) (hs : PtsR w pa pn pc s.ps) (hw1 : Wf s.ax) (hw2 : Wf s.dn) (hw3 : Wf s.iv) (hpw : ∀ p ∈ s.ps, Wf p.1 ∧ Wf p.2.1) :
    Calls Try.prog 22 #[.agg #[.int .i64 s.ax, .int .i64 s.dn, .slice pa pn pc, .int .i64 s.iv]] w fun e w' => e = .returned (.bool (mayS s)) ∧ Below w.heap.size w w' := by
  have hl := hs.ilen; have htop := @mayTop_no s; have hbad : ∀ (k : Nat) (p : PtM), s.ps[k]? = some p → mayPt p = false → mayS s = false := fun k p h1 h2 => mayS_bad h1 h2; have hend : mayTop s = true → (∀ (k : Nat) p, s.ps[k]? = some p → mayPt p = true) → mayS s = decide (sumPt s.ps ≤ 10) := mayS_end; have htp : (1 ≤ s.ax ∧ s.ax ≤ 512 ∧ 1 ≤ s.dn ∧ s.dn ≤ 512 ∧ 1 ≤ s.ps.length ∧ s.ps.length ≤ 4 ∧ 0 ≤ s.iv ∧ s.iv ≤ 65535) → mayTop s = true := fun h => decide_eq_true h; obtain ⟨ax, dn, iv, ps⟩ := s; simp only at hs hl htop hbad hend htp hw1 hw2 hw3 hpw ⊢; obtain ⟨R, hR⟩ : ∃ R, mayS ⟨ax, dn, iv, ps⟩ = R := ⟨_, rfl⟩; rw [hR] at htop hend ⊢; have hbad : ∀ (k : Nat) (p : PtM), ps[k]? = some p → mayPt p = false → R = false := fun k p h1 h2 => hR ▸ hbad k p h1 h2; have b1 := Blk.new w 24 #[.int .i64 ax, .int .i64 dn, .slice pa pn pc, .int .i64 iv]; have hb1 := (Below.refl w.heap.size w).alloc (Nat.le_refl _) (.cells #[.int .i64 ax, .int .i64 dn, .slice pa pn pc, .int .i64 iv] 24); obtain ⟨W1, hW1⟩ : ∃ W1, w.alloc (.cells #[.int .i64 ax, .int .i64 dn, .slice pa pn pc, .int .i64 iv] 24) = W1 := ⟨_, rfl⟩; rw [hW1] at b1 hb1; have k0 : W1.cell? ⟨w.heap.size, 0, none⟩ = some (.int .i64 ax) := b1.cell rfl; have k1 : W1.cell? ⟨w.heap.size, 1, none⟩ = some (.int .i64 dn) := b1.cell rfl; have k2 : W1.cell? ⟨w.heap.size, 2, none⟩ = some (.slice pa pn pc) := b1.cell rfl; have k3 : W1.cell? ⟨w.heap.size, 3, none⟩ = some (.int .i64 iv) := b1.cell rfl; rw [hl] at htop htp; have hs' := Lib.hid hs; have hl' := Lib.hid hl; have hR' := Lib.hid hR; have b1' := Lib.hid b1; have hb1' := Lib.hid hb1; have hW1' := Lib.hid hW1; have hpw' := Lib.hid hpw; have hbad' := Lib.hid hbad; have hend' := Lib.hid hend; have htop' := Lib.hid htop; have htp' := Lib.hid htp; clear hs hl hR b1 hb1 hW1 hpw hbad hend htop htp
  go_enter Try.func22, Try.ntmps22
  go_upto_region 1 with fail
  rw [hW1'.out]
  rcases (show (ax < 1) ∨ (¬ ax < 1 ∧ dn < 1) ∨ (¬ ax < 1 ∧ ¬ dn < 1 ∧ 512 < ax) ∨ (¬ ax < 1 ∧ ¬ dn < 1 ∧ ¬ 512 < ax ∧ 512 < dn) ∨ (¬ ax < 1 ∧ ¬ dn < 1 ∧ ¬ 512 < ax ∧ ¬ 512 < dn ∧ (pn : Int) < 1) ∨ (¬ ax < 1 ∧ ¬ dn < 1 ∧ ¬ 512 < ax ∧ ¬ 512 < dn ∧ ¬ (pn : Int) < 1 ∧ 4 < (pn : Int)) ∨ (¬ ax < 1 ∧ ¬ dn < 1 ∧ ¬ 512 < ax ∧ ¬ 512 < dn ∧ ¬ (pn : Int) < 1 ∧ ¬ 4 < (pn : Int) ∧ iv < 0) ∨ (¬ ax < 1 ∧ ¬ dn < 1 ∧ ¬ 512 < ax ∧ ¬ 512 < dn ∧ ¬ (pn : Int) < 1 ∧ ¬ 4 < (pn : Int) ∧ ¬ iv < 0 ∧ 65535 < iv) ∨ (¬ ax < 1 ∧ ¬ dn < 1 ∧ ¬ 512 < ax ∧ ¬ 512 < dn ∧ ¬ (pn : Int) < 1 ∧ ¬ 4 < (pn : Int) ∧ ¬ iv < 0 ∧ ¬ 65535 < iv) by omega) with c1 | ⟨c1, c2⟩ | ⟨c1, c2, c3⟩ | ⟨c1, c2, c3, c4⟩ | ⟨c1, c2, c3, c4, c5⟩ | ⟨c1, c2, c3, c4, c5, c6⟩ | ⟨c1, c2, c3, c4, c5, c6, c7⟩ | ⟨c1, c2, c3, c4, c5, c6, c7, c8⟩ | ⟨c1, c2, c3, c4, c5, c6, c7, c8⟩
  iterate 8
    · obtain rfl : R = false := htop'.out (by omega)
      go_wp2
      go_ret
      exact ⟨rfl, hb1'.out⟩
  have hend2 : (∀ (k : Nat) p, ps[k]? = some p → mayPt p = true) → R = decide (sumPt ps ≤ 10) := hend'.out (htp'.out (by omega)); have hp4 : pn ≤ 4 := by omega
  have hend2' := Lib.hid hend2; clear hend2
  go_wp2
  go_loopw [3, 5, 49] (fun sv _ iv wr => ∃ (k : Nat) (m : Int), k ≤ pn ∧ 0 ≤ m ∧ m ≤ 16 * k ∧ iv = .int .i64 k ∧ sv = .int .i64 m ∧ Hid (m = sumPt (ps.take k)) ∧ Hid (∀ (j : Nat) p, j < k → ps[j]? = some p → mayPt p = true) ∧ Hid (Below w.heap.size w wr)) (fun _ _ iv _ => pn - (intOf iv).toNat)
  case atStart => exact ⟨0, 0, by omega, by omega, by omega, rfl, rfl, Lib.hid rfl, Lib.hid (fun j p h => by omega), hb1'⟩
  case round =>
    obtain ⟨k, m, hk, hm0, hm1, rfl, rfl, hsum, hall, hbel⟩ := hrel
    by_cases hlt : k < pn
    · obtain ⟨p, hp⟩ : ∃ p, ps[k]? = some p := ⟨_, List.getElem?_eq_getElem (by rw [hl'.out]; exact hlt)⟩
      obtain ⟨bb, o, rfl, hbb, f⟩ := (hs'.out.mono hbel.out).elem hp; have hpm := List.mem_of_getElem? hp; have hpk := (hs'.out.ok p hpm).mono hbel.out; have hpwf := hpw'.out p hpm; obtain ⟨B, hB⟩ : ∃ B, (pC p).toArray = B := ⟨_, rfl⟩; have hcl := pC_len hpk; have hone := pC_one (p := p); have hB36 : B.size = 36 := by rw [← hB]; simpa using hcl
      rw [hB] at hone; obtain ⟨W2, hW2⟩ : ∃ W2, wr.alloc (.cells B 47) = W2 := ⟨_, rfl⟩; have hal := (Below.refl wr.heap.size wr).alloc (Nat.le_refl _) (.cells B 47); have hqb : Blk W2 wr.heap.size 47 B := by rw [← hW2]; exact Blk.new wr 47 B
      rw [hW2] at hal; have hbw := hbel.out.trans (hal.mono hbel.out.size); have hfields := fun W (b : Blk W wr.heap.size 47 B) => pB_cells (p := p) hpk.dc.len (hB ▸ b); have hsn := sumPt_snoc hp; have hbk := hbad'.out k p hp; obtain ⟨H1, hH1⟩ : ∃ H, (hufC p.2.2.1).toArray = H := ⟨_, rfl⟩; obtain ⟨H2, hH2⟩ : ∃ H, (hufC p.2.2.2).toArray = H := ⟨_, rfl⟩; have hl1 := hufC_len hpk.dc.len; have hl2 := hufC_len hpk.ac.len; have HM1 := fun W (h : Below wr.heap.size wr W) => mayH_any (hpk.dc.mono h) H1 hH1; have HM2 := fun W (h : Below wr.heap.size wr W) => mayH_any (hpk.ac.mono h) H2 hH2; obtain ⟨r1, hr1⟩ : ∃ r, mayH p.2.2.1 = r := ⟨_, rfl⟩; obtain ⟨r2, hr2⟩ : ∃ r, mayH p.2.2.2 = r := ⟨_, rfl⟩; rw [hr1] at HM1; rw [hr2] at HM2; have hout := @mayPt_out p; have hdc := @mayPt_dc p; have hac := @mayPt_ac p; have hok := @mayPt_all p; rw [hr1] at hdc hok; rw [hr2] at hac hok; have h4 := @mul_four p.1 p.2.1; obtain ⟨z1, hz1⟩ : ∃ z, p.1 * p.2.1 = z := ⟨_, rfl⟩; rw [hz1] at h4 hsn; obtain ⟨x, hx⟩ : ∃ x, p.1 = x := ⟨_, rfl⟩; obtain ⟨y, hy⟩ : ∃ y, p.2.1 = y := ⟨_, rfl⟩; have hxy : x * y = z1 := by rw [← hx, ← hy]; exact hz1
      obtain ⟨k0, k1, k2, k3⟩ := hfields W2 hqb; rw [hx] at k0; rw [hy] at k1; have hfx : ∀ W, Blk W wr.heap.size 47 B → W.cell? ⟨wr.heap.size, 0, none⟩ = some (.int .i64 x) := fun W b => hx ▸ (hfields W b).1; have hfy : ∀ W, Blk W wr.heap.size 47 B → W.cell? ⟨wr.heap.size, 1, none⟩ = some (.int .i64 y) := fun W b => hy ▸ (hfields W b).2.1; rw [hx, hy] at hout hok h4 hpwf; obtain ⟨hxw, hyw⟩ := hpwf; clear hx hy hz1; have f' := Lib.hid f; have hpk' := Lib.hid hpk; have hB' := Lib.hid hB; have hcl' := Lib.hid hcl; have hp' := Lib.hid hp; have hone' := Lib.hid hone; have hB36' := Lib.hid hB36; have hal' := Lib.hid hal; have hqb' := Lib.hid hqb; have hW2' := Lib.hid hW2; have hbw' := Lib.hid hbw; have hfields' := Lib.hid hfields; have hsn' := Lib.hid hsn; have hbk' := Lib.hid hbk; have hH1' := Lib.hid hH1; have hH2' := Lib.hid hH2; have hl1' := Lib.hid hl1; have hl2' := Lib.hid hl2; have HM1' := Lib.hid HM1; have HM2' := Lib.hid HM2; have hr1' := Lib.hid hr1; have hr2' := Lib.hid hr2; have hout' := Lib.hid hout; have hdc' := Lib.hid hdc; have hac' := Lib.hid hac; have hok' := Lib.hid hok; have h4' := Lib.hid h4; have k2' := Lib.hid k2; have k3' := Lib.hid k3; have hfx' := Lib.hid hfx; have hfy' := Lib.hid hfy; clear f hpk hB hcl hp hone hB36 hal hqb hW2 hbw hfields hsn hbk hH1 hH2 hl1 hl2 HM1 HM2 hr1 hr2 hout hdc hac hok h4 k2 k3 hfx hfy
      go_upto_region 7 with (first
        | (refine wpList_load_at rfl 47 (.tmp 51) rfl bb (o + k * 36) rfl (pC p) B hB'.out _ f'.out Try.underlying47 rfl 36 infoP hcl'.out ?_)
        | (refine wpList_store_row rfl 47 (.tmp 5) (.tmp 52) rfl wr.heap.size B rfl rfl 47 _ (heap_new _ _) (by rw [hB36'.out]; exact infoP) (by rw [hB36'.out]; rfl) hone'.out ?_))
      rw [setRow_alloc, hW2'.out]
      rcases (show (x < 1) ∨ (¬ x < 1 ∧ 4 < x) ∨ (¬ x < 1 ∧ ¬ 4 < x ∧ y < 1) ∨ (¬ x < 1 ∧ ¬ 4 < x ∧ ¬ y < 1 ∧ 4 < y) ∨ (¬ x < 1 ∧ ¬ 4 < x ∧ ¬ y < 1 ∧ ¬ 4 < y) by omega) with d1 | ⟨d1, d2⟩ | ⟨d1, d2, d3⟩ | ⟨d1, d2, d3, d4⟩ | ⟨d1, d2, d3, d4⟩
      iterate 4
        · obtain rfl : R = false := hbk'.out (hout'.out (by omega))
          go_wp2
          go_ret
          exact ⟨rfl, hbw'.out⟩
      have hxy4 := h4'.out (by omega); obtain ⟨hz1, hz2⟩ := hxy4; have k2 := k2'.out
      go_wp2_with (refine wpList_load_atW rfl 45 (.tmp 72) rfl wr.heap.size 2 rfl (hufC p.2.2.1) H1 hH1'.out _ k2 Try.underlying45 rfl 17 infoH17 hl1'.out ?_)
      refine (HM1'.out _ hal'.out).mono ?_; rintro e w2 ⟨rfl, hb2⟩; have hbw2 := hbw'.out.trans (hb2.mono hbw'.out.size); have hb12 := hal'.out.trans (hb2.mono hal'.out.size); have bk2 := hqb'.out.late hb2; have g0 := hfx'.out w2 bk2; have g1 := hfy'.out w2 bk2; have k3 := (hfields'.out w2 bk2).2.2.2; clear k2 k2' k3' hb2 k0 k1
      cases r1 with
      | false =>
        obtain rfl : R = false := hbk'.out (hdc'.out rfl); have hbw2' := Lib.hid hbw2; have bk2' := Lib.hid bk2; have k3' := Lib.hid k3; have hb12' := Lib.hid hb12; clear hbw2 bk2 k3 hb12
        go_wp2
        go_ret
        exact ⟨rfl, hbw2'.out⟩
      | true =>
        have hbw2' := Lib.hid hbw2; have bk2' := Lib.hid bk2; have hb12' := Lib.hid hb12; clear hbw2 bk2 hb12
        go_wp2_with (refine wpList_load_atW rfl 45 (.tmp 78) rfl wr.heap.size 19 rfl (hufC p.2.2.2) H2 hH2'.out _ k3 Try.underlying45 rfl 17 infoH17 hl2'.out ?_)
        refine (HM2'.out _ hb12'.out).mono ?_; rintro e w3 ⟨rfl, hb3⟩; have hbw3 := hbw2'.out.trans (hb3.mono hbw2'.out.size); have bk3 := bk2'.out.late hb3; clear hb3 k3 g0 g1; have g0 := hfx'.out w3 bk3; have g1 := hfy'.out w3 bk3
        cases r2 with
        | false =>
          obtain rfl : R = false := hbk'.out (hac'.out rfl); have hbw3' := Lib.hid hbw3; have bk3' := Lib.hid bk3; clear hbw3 bk3
          go_wp2
          go_ret
          exact ⟨rfl, hbw3'.out⟩
        | true =>
          have hpok := hok'.out (by omega) trivial rfl
          have hall2 : ∀ (j : Nat) (q : PtM), j < k + 1 → ps[j]? = some q → mayPt q = true := fun j q hj hq => by
            rcases Nat.lt_or_ge j k with h | h
            · exact hall.out j q h hq
            · obtain rfl : j = k := by omega
              rw [hp'.out] at hq; injection hq with hq; rw [← hq]; exact hpok
          have hsum2 : m + z1 = sumPt (ps.take (k + 1)) := by rw [hsn'.out, hsum.out]
          have ew1 : IntKind.i64.wrap (x * y) = z1 := by rw [hxy, IntKind.wrap_i64]; omega
          have ew2 : IntKind.i64.wrap (m + z1) = m + z1 := by rw [IntKind.wrap_i64]; omega
          have hbw3' := Lib.hid hbw3; have bk3' := Lib.hid bk3; have hall2' := Lib.hid hall2; have hsum2' := Lib.hid hsum2; clear hbw3 bk3 hall2 hsum2
          go_wp2
          go_roundw
          case rel => exact ⟨k + 1, m + z1, by omega, by omega, by omega, by go_num, by go_num, hsum2', hall2', hbw3'⟩
          case measure => simp [intOf]; omega
    · have hkn : k = pn := by omega
      subst hkn
      have e1 : R = decide (m ≤ 10) := by
        rw [hend2'.out (fun j p hj => hall.out j p (by rw [← hl'.out]; exact (List.getElem?_eq_some_iff.1 hj).1) hj), hsum.out, List.take_of_length_le (Nat.le_of_eq hl'.out)]
      have e1' := Lib.hid e1; clear e1
      by_cases h10 : m ≤ 10
      · obtain rfl : R = true := by rw [e1'.out]; exact decide_eq_true h10
        go_wp2
        go_ret
        exact ⟨rfl, hbel.out⟩
      · obtain rfl : R = false := by rw [e1'.out]; exact decide_eq_false h10
        go_wp2
        go_ret
        exact ⟨rfl, hbel.out⟩
end Go.Proofs.Ytpjopeojeglogaa

namespace Go.Proofs.Ytpjopeojeglogaa
open Go.RowKit Tt
set_option linter.unusedVariables false
set_option linter.unusedSimpArgs false

/-- where the j-th block of a plane lies, of the n-th unit -/
def atU (a h v n j : Nat) : Nat := ((n / a * v + j / h) * a) * h + (n % a * h + j % h)
def plU (a n k : Nat) (p : PtM) (j : Nat) : Nat × Nat := (k, atU a p.1.toNat p.2.1.toNat n j)
def unitP (a n k : Nat) (p : PtM) : List (Nat × Nat) := (List.range (p.1.toNat * p.2.1.toNat)).map (plU a n k p)
def unitS (a : Nat) (ps : List PtM) (n : Nat) : List (Nat × Nat) := (ps.zipIdx.map fun x => unitP a n x.2 x.1).flatten
theorem unitS_snoc {a n k : Nat} {ps : List PtM} {p : PtM} (h : ps[k]? = some p) : unitS a (ps.take (k + 1)) n = unitS a (ps.take k) n ++ unitP a n k p := by
  have hk := (List.getElem?_eq_some_iff.1 h).1; unfold unitS; rw [List.take_add_one, h]; simp only [Option.toList_some, List.zipIdx_append, List.map_append, List.flatten_append, List.length_take, Nat.min_eq_left (Nat.le_of_lt hk), Nat.zero_add, List.zipIdx_cons, List.zipIdx_nil, List.map_cons, List.map_nil, List.flatten_cons, List.flatten_nil, List.append_nil]
def placeC (x : Nat × Nat) : List Value := [.int .i64 x.1, .int .i64 x.2]
def placesC (l : List (Nat × Nat)) : List Value := (l.map placeC).flatten
theorem placesC_app (l m : List (Nat × Nat)) : placesC (l ++ m) = placesC l ++ placesC m := by unfold placesC; rw [List.map_append, List.flatten_append]
theorem range_snoc (f : Nat → Nat × Nat) (j : Nat) : (List.range (j + 1)).map f = (List.range j).map f ++ [f j] := by rw [List.range_succ, List.map_append]; rfl
theorem mayS_parts {s : ScT} (h : mayS s = true) : (1 ≤ s.ax ∧ s.ax ≤ 512 ∧ 1 ≤ s.dn ∧ s.dn ≤ 512 ∧ 1 ≤ s.ps.length ∧ s.ps.length ≤ 4 ∧ 0 ≤ s.iv ∧ s.iv ≤ 65535) ∧ (∀ (k : Nat) p, s.ps[k]? = some p → mayPt p = true) ∧ sumPt s.ps ≤ 10 := by
  unfold mayS mayTop at h; simp only [Bool.and_eq_true, decide_eq_true_eq, List.all_eq_true] at h; exact ⟨h.1.1, fun k p hp => h.1.2 p (List.mem_of_getElem? hp), h.2⟩
theorem wrapN {n : Nat} (h : n ≤ 9000000000000000000) : IntKind.i64.wrap (n : Int) = n := by rw [IntKind.wrap_i64]; omega
theorem unit_steps {a h v n j : Nat} (ha : 1 ≤ a ∧ a ≤ 512) (hh : 1 ≤ h ∧ h ≤ 4) (hv : 1 ≤ v ∧ v ≤ 4) (hn : n ≤ 262144) (hj : j ≤ 16) :
    ∃ q qv jq row r rh jr col ra rah at' : Nat, at' = atU a h v n j ∧ at' ≤ 9000000000 ∧
      (Int.tdiv (n : Int) (a : Int) = (q : Int) ∧ IntKind.i64.wrap (q : Int) = q ∧ IntKind.i64.wrap ((q : Int) * v) = qv) ∧
      (Int.tdiv (j : Int) (h : Int) = (jq : Int) ∧ IntKind.i64.wrap (jq : Int) = jq ∧ IntKind.i64.wrap ((qv : Int) + jq) = row) ∧
      (Int.tmod (n : Int) (a : Int) = (r : Int) ∧ IntKind.i64.wrap (r : Int) = r ∧ IntKind.i64.wrap ((r : Int) * h) = rh) ∧
      (Int.tmod (j : Int) (h : Int) = (jr : Int) ∧ IntKind.i64.wrap (jr : Int) = jr ∧ IntKind.i64.wrap ((rh : Int) + jr) = col) ∧
      (IntKind.i64.wrap ((row : Int) * a) = ra ∧ IntKind.i64.wrap ((ra : Int) * h) = rah ∧ IntKind.i64.wrap ((rah : Int) + col) = at') := by
  have b1 : n / a ≤ 262144 := Nat.le_trans (Nat.div_le_self _ _) hn; have b2 : n / a * v ≤ 262144 * 4 := Nat.mul_le_mul b1 hv.2; have b3 : j / h ≤ 16 := Nat.le_trans (Nat.div_le_self _ _) hj; have b4 : n % a < 512 := Nat.lt_of_lt_of_le (Nat.mod_lt _ ha.1) ha.2; have b5 : n % a * h ≤ 512 * 4 := Nat.mul_le_mul (by omega) hh.2; have b6 : j % h < 4 := Nat.lt_of_lt_of_le (Nat.mod_lt _ hh.1) hh.2; have b7 : (n / a * v + j / h) * a ≤ 1048592 * 512 := Nat.mul_le_mul (by omega) ha.2; have b8 : (n / a * v + j / h) * a * h ≤ 1048592 * 512 * 4 := Nat.mul_le_mul b7 hh.2; refine ⟨n / a, n / a * v, j / h, n / a * v + j / h, n % a, n % a * h, j % h, n % a * h + j % h, (n / a * v + j / h) * a, (n / a * v + j / h) * a * h, atU a h v n j, rfl, by unfold atU; omega, ⟨(Int.ofNat_tdiv n a).symm, ?_, ?_⟩, ⟨(Int.ofNat_tdiv j h).symm, ?_, ?_⟩, ⟨(Int.ofNat_tmod n a).symm, ?_, ?_⟩, ⟨(Int.ofNat_tmod j h).symm, ?_, ?_⟩, ?_, ?_, ?_⟩
  · exact wrapN (by omega)
  · rw [← Int.natCast_mul]; exact wrapN (by omega)
  · exact wrapN (by omega)
  · rw [← Int.natCast_add]; exact wrapN (by omega)
  · exact wrapN (by omega)
  · rw [← Int.natCast_mul]; exact wrapN (by omega)
  · exact wrapN (by omega)
  · rw [← Int.natCast_add]; exact wrapN (by omega)
  · rw [← Int.natCast_mul]; exact wrapN (by omega)
  · rw [← Int.natCast_mul]; exact wrapN (by omega)
  · unfold atU; rw [← Int.natCast_add]; exact wrapN (by omega)
theorem infoPl : (Try.prog.info? 142).map (fun i => (i.zero, i.size, i.bytes)) = some (some (.agg #[.int .i64 0, .int .i64 0]), 2, 16) := by kernel_rfl
set_option maxRecDepth 100000 in
set_option maxHeartbeats 4000000 in
theorem unit_any (s : ScT) (pa : Option Addr) (pn pc m : Nat) (w : World) (hs : PtsR w pa pn pc s.ps) (hmay : mayS s = true) (hm : m ≤ 262144) :
    Calls Try.prog 95 #[.agg #[.int .i64 s.ax, .int .i64 s.dn, .slice pa pn pc, .int .i64 s.iv], .int .i64 m] w fun e w' => ∃ a n c, e = .returned (.slice a n c) ∧ Below w.heap.size w w' ∧ w'.ownsRow w.heap.size 142 2 (.slice a n c) n (placesC (unitS s.ax.toNat s.ps m)) := by
  obtain ⟨i1, hi, hz0, hz1, hz2⟩ := info_parts infoPl; have hl := hs.ilen; obtain ⟨htop, hpts, hsum⟩ := mayS_parts hmay; obtain ⟨ax, dn, iv, ps⟩ := s; simp only at hs hl htop hpts hsum ⊢; obtain ⟨a, rfl⟩ : ∃ a : Nat, ax = a := ⟨ax.toNat, by omega⟩; have ha : 1 ≤ a ∧ a ≤ 512 := by omega
  rw [Int.toNat_natCast]; have b1 := Blk.new w 24 #[.int .i64 a, .int .i64 dn, .slice pa pn pc, .int .i64 iv]; have hb1 := (Below.refl w.heap.size w).alloc (Nat.le_refl _) (.cells #[.int .i64 a, .int .i64 dn, .slice pa pn pc, .int .i64 iv] 24); obtain ⟨W1, hW1⟩ : ∃ W1, w.alloc (.cells #[.int .i64 a, .int .i64 dn, .slice pa pn pc, .int .i64 iv] 24) = W1 := ⟨_, rfl⟩; rw [hW1] at b1 hb1; have k2 : W1.cell? ⟨w.heap.size, 2, none⟩ = some (.slice pa pn pc) := b1.cell rfl; have hp4 : pn ≤ 4 := by omega
  have hs' := Lib.hid hs; have hl' := Lib.hid hl; have b1' := Lib.hid b1; have hb1' := Lib.hid hb1; have hW1' := Lib.hid hW1; have hpts' := Lib.hid hpts; have htop' := Lib.hid htop; have hsum' := Lib.hid hsum; clear hs hl b1 hb1 hW1 hpts htop hsum
  go_enter Try.func95, Try.ntmps95
  go_upto_region 1 with fail
  rw [hW1'.out]
  go_wp2
  clear k2
  go_loopw [5, 6, 7, 8, 9, 10, 14] (fun ov _ _ _ _ _ xv wr => ∃ (k n : Nat) (a3 : Option Addr) (c3 : Nat), k ≤ pn ∧ n ≤ 16 * k ∧ xv = .int .i64 k ∧ ov = .slice a3 n c3 ∧ Hid (Blk wr w.heap.size 24 #[.int .i64 a, .int .i64 dn, .slice pa pn pc, .int .i64 iv]) ∧ Hid (wr.ownsRow (w.heap.size + 1) 142 2 (.slice a3 n c3) n (placesC (unitS a (ps.take k) m))) ∧ Hid (Below w.heap.size w wr)) (fun _ _ _ _ _ _ xv _ => pn - (intOf xv).toNat)
  case atStart => exact ⟨0, 0, none, 0, by omega, by omega, rfl, rfl, b1', Lib.hid (own_nil _ _ _ _), hb1'⟩
  case round =>
    rename World => wo
    obtain ⟨k, n, a3, c3, hk, hn, rfl, rfl, hbk, Ob, hbel⟩ := hrel
    by_cases hlt : k < pn
    · obtain ⟨p, hp⟩ : ∃ p, ps[k]? = some p := ⟨_, List.getElem?_eq_getElem (by rw [hl'.out]; exact hlt)⟩
      obtain ⟨bb, o, rfl, hbb, f⟩ := (hs'.out.mono hbel.out).elem hp; have hpk := (hs'.out.ok p (List.mem_of_getElem? hp)).mono hbel.out; have hpm := mayPt_bd (hpts'.out k p hp); obtain ⟨x, y, hdc, hac⟩ := p; simp only at hpm; obtain ⟨h, rfl⟩ : ∃ h : Nat, x = h := ⟨x.toNat, by omega⟩; obtain ⟨v, rfl⟩ : ∃ h : Nat, y = h := ⟨y.toNat, by omega⟩; have hh : 1 ≤ h ∧ h ≤ 4 := by omega
      have hv : 1 ≤ v ∧ v ≤ 4 := by omega
      clear hpm; obtain ⟨B, hB⟩ : ∃ B, (pC ((h : Int), (v : Int), hdc, hac)).toArray = B := ⟨_, rfl⟩; have hcl := pC_len hpk; have hone := pC_one (p := ((h : Int), (v : Int), hdc, hac)); have hB36 : B.size = 36 := by rw [← hB]; simpa using hcl
      rw [hB] at hone; obtain ⟨W2, hW2⟩ : ∃ W2, wo.alloc (.cells B 47) = W2 := ⟨_, rfl⟩; have hal := (Below.refl wo.heap.size wo).alloc (Nat.le_refl _) (.cells B 47); have hqb : Blk W2 wo.heap.size 47 B := by rw [← hW2]; exact Blk.new wo 47 B
      rw [hW2] at hal; have hbw := hbel.out.trans (hal.mono hbel.out.size); have hfields := fun W (b : Blk W wo.heap.size 47 B) => pB_cells (p := ((h : Int), (v : Int), hdc, hac)) hpk.dc.len (hB ▸ b); have hfx : ∀ W, Blk W wo.heap.size 47 B → W.cell? ⟨wo.heap.size, 0, none⟩ = some (.int .i64 (h : Int)) := fun W b => (hfields W b).1; have hfy : ∀ W, Blk W wo.heap.size 47 B → W.cell? ⟨wo.heap.size, 1, none⟩ = some (.int .i64 (v : Int)) := fun W b => (hfields W b).2.1; clear hfields; have k0 := hfx W2 hqb; have k1 := hfy W2 hqb; have hbk2 := hbk.out.late hal; have Ob2 := own_later Ob.out hal; have hsn := unitS_snoc (a := a) (n := m) hp; have hhv : h * v ≤ 16 := Nat.mul_le_mul hh.2 hv.2; obtain ⟨hv2, hhv2⟩ : ∃ z, h * v = z := ⟨_, rfl⟩; rw [hhv2] at hhv; have ew : IntKind.i64.wrap ((h : Int) * v) = hv2 := by rw [← Int.natCast_mul, hhv2]; exact wrapN (by omega)
      have hstep := fun j (hj : j ≤ 16) => unit_steps ha hh hv hm hj; have f' := Lib.hid f; have hpk' := Lib.hid hpk; have hB' := Lib.hid hB; have hcl' := Lib.hid hcl; have hp' := Lib.hid hp; have hone' := Lib.hid hone; have hB36' := Lib.hid hB36; have hal' := Lib.hid hal; have hqb' := Lib.hid hqb; have hW2' := Lib.hid hW2; have hbw' := Lib.hid hbw; have hfx' := Lib.hid hfx; have hfy' := Lib.hid hfy; have hbk2' := Lib.hid hbk2; have Ob2' := Lib.hid Ob2; have hsn' := Lib.hid hsn; have hhv2' := Lib.hid hhv2; have hstep' := Lib.hid hstep; have ha' := Lib.hid ha; have hh' := Lib.hid hh; have hv' := Lib.hid hv; have hm' := Lib.hid hm; clear f hpk hB hcl hp hone hB36 hal hqb hW2 hbw hfx hfy hbk2 Ob2 hsn hhv2 hstep ha hh hv hm
      go_upto_region 5 with (first
        | (refine wpList_load_at rfl 47 (.tmp 17) rfl bb (o + k * 36) rfl (pC ((h : Int), (v : Int), hdc, hac)) B hB'.out _ f'.out Try.underlying47 rfl 36 infoP hcl'.out ?_)
        | (refine wpList_store_row rfl 47 (.tmp 7) (.tmp 18) rfl wo.heap.size B rfl rfl 47 _ (heap_new _ _) (by rw [hB36'.out]; exact infoP) (by rw [hB36'.out]; rfl) hone'.out ?_))
      rw [setRow_alloc, hW2'.out]
      go_wp2
      clear k0 k1
      go_loopw [5, 8, 9, 10, 24] (fun ov _ _ _ xv wi => ∃ (j : Nat) (a4 : Option Addr) (c4 : Nat), j ≤ hv2 ∧ xv = .int .i64 j ∧ ov = .slice a4 (n + j) c4 ∧ Hid (Blk wi w.heap.size 24 #[.int .i64 a, .int .i64 dn, .slice (some ⟨bb, o, none⟩) pn pc, .int .i64 iv]) ∧ Hid (Blk wi wo.heap.size 47 B) ∧ Hid (wi.ownsRow (w.heap.size + 1) 142 2 (.slice a4 (n + j) c4) (n + j) (placesC (unitS a (ps.take k) m ++ (List.range j).map (plU a m k ((h : Int), (v : Int), hdc, hac))))) ∧ Hid (Below w.heap.size w wi)) (fun _ _ _ _ xv _ => hv2 - (intOf xv).toNat)
      case atStart => exact ⟨0, a3, c3, by omega, rfl, rfl, hbk2', hqb', Lib.hid (by simpa using Ob2'.out), hbw'⟩
      case round =>
        obtain ⟨j, a4, c4, hj, rfl, rfl, hb3, hq3, O3, hbel3⟩ := hrel
        by_cases hjt : j < hv2
        · have hj16 : j ≤ 16 := by omega
          obtain ⟨q, qv, jq, row, r, rh, jr, col, ra, rah, at', hat, hat9, ⟨e1, e2, e3⟩, ⟨e4, e5, e6⟩, ⟨e7, e8, e9⟩, ⟨e10, e11, e12⟩, ⟨e13, e14, e15⟩⟩ := hstep'.out j hj16; obtain ⟨Ty, ff, hnn, hbel2, hsurj⟩ := later_worlds wr; have HS := Lib.hid (hsurj wr.drew ((Below.refl wr.heap.size wr).drew)); have y0 : ∀ s, (ff s).cell? ⟨w.heap.size, 0, none⟩ = some (.int .i64 a) := fun s => (hb3.out.late (hbel2 s)).cell rfl; have y1 : ∀ s, (ff s).cell? ⟨wo.heap.size, 0, none⟩ = some (.int .i64 h) := fun s => hfx'.out _ (hq3.out.late (hbel2 s)); have y2 : ∀ s, (ff s).cell? ⟨wo.heap.size, 1, none⟩ = some (.int .i64 v) := fun s => hfy'.out _ (hq3.out.late (hbel2 s)); have ane : ¬ (a : Int) = 0 := by have := ha'.out; omega
          have hne : ¬ (h : Int) = 0 := by have := hh'.out; omega
          have hat' := Lib.hid hat; have hat9' := Lib.hid hat9; have hbel2' := Lib.hid hbel2; have hsurj' := Lib.hid hsurj; clear hat hat9 hbel2 hsurj
          go_upto_region 8 with fail
          refine wp_quiet_in ff (by kernel_rfl) (by kernel_rfl) HS.out ?_
          iterate 26 (go_big_quiet_step (fail))
          refine wpQuiet_nil ?_; clear y0 y1 y2; intro u; have hdr := hbel2'.out u; have b4 := hb3.out.late hdr; have q4 := hq3.out.late hdr; have o4 := own_later O3.out hdr; have d4 := hbel3.out.trans (hdr.mono hbel3.out.size); have f0 : (ff u).cell? ⟨w.heap.size, 0, none⟩ = some (.int .i64 a) := b4.cell rfl; have f1 := hfx'.out _ q4; obtain ⟨x, hx⟩ : ∃ X, ff u = X := ⟨_, rfl⟩; rw [hx] at b4 q4 o4 d4 f0 f1 ⊢; have hal := (Below.refl x.heap.size x).alloc (Nat.le_refl _) (.cells #[.int .i64 k, .int .i64 at'] 142); have b5 := b4.late hal; have q5 := q4.late hal; have o5 := own_later o4 hal; have d5 := d4.trans (hal.mono d4.size); have s5 := Sl.new x 142 2 1 #[.int .i64 k, .int .i64 at'] (0, 0) (by decide) rfl; have hsz : w.heap.size + 1 ≤ (x.alloc (.cells #[.int .i64 k, .int .i64 at'] 142)).heap.size := Nat.lt_of_lt_of_le b4.lt hal.size
          have hrow : placesC (unitS a (ps.take k) m ++ (List.range j).map (plU a m k ((h : Int), (v : Int), hdc, hac))) ++ [.int .i64 k, .int .i64 at'] = placesC (unitS a (ps.take k) m ++ (List.range (j + 1)).map (plU a m k ((h : Int), (v : Int), hdc, hac))) := by
            rw [range_snoc, ← List.append_assoc, placesC_app _ [_]]; unfold plU; rw [Int.toNat_natCast, Int.toNat_natCast, ← hat'.out]
            rfl
          clear hal; clear hx; have b4' := Lib.hid b4; have q4' := Lib.hid q4; have o4' := Lib.hid o4; have d4' := Lib.hid d4; have b5' := Lib.hid b5; have q5' := Lib.hid q5; have o5' := Lib.hid o5; have d5' := Lib.hid d5; have s5' := Lib.hid s5; have hrow' := Lib.hid hrow; have hsz' := Lib.hid hsz; clear b4 q4 o4 d4 b5 q5 o5 d5 s5 hrow hsz
          go_wp2_with (at_builtin; refine wpList_app2 rfl _ _ 139 rfl (w.heap.size + 1) 142 i1 _ 2 16 Try.underlying139 hi hz0 hz1 hz2 rfl (by decide) _ (n + j) _ rfl o5'.out ⟨x.heap.size, 0, none⟩ 1 1 [.int .i64 k, .int .i64 at'] rfl s5'.out (by simp [Value.oneCell']) (by omega) (by decide) (by have h1 := hsz'.out; omega) ?_; intro a5 c5 w5 ho5 hg5 hn5; have g5 : Mo (fun j' => (Value.slice a4 (n + j) c4).ownBlock = some j') _ w5 := Mo.of_grown hg5 (fun _ e => e); have B5 := Lib.hid (b5'.out.mo g5 (own_neB o5'.out b5'.out (by decide))); have Q5 := Lib.hid (q5'.out.mo g5 (own_neB o5'.out q5'.out (by decide))); have Hd5 := Lib.hid (d5'.out.trans (Mo.below (S := fun j' => j' ≥ w.heap.size + 1 ∧ True) (Mo.of_grown hg5 (fun k e => ⟨(o5'.out.lt k e).1, trivial⟩)) d5'.out.size (fun k hk h => by omega))); have Ho5 := Lib.hid ho5; clear ho5 hg5 hn5 g5)
          go_roundw
          case rel => exact ⟨j + 1, a5, c5, by omega, by go_num, rfl, B5, Q5, Lib.hid (by rw [← hrow'.out]; exact Ho5.out), Hd5⟩
          case measure => simp [intOf]; omega
        · have hjk : j = hv2 := by omega
          subst hjk; have O5 := O3.out
          have e5 : (List.range j).map (plU a m k ((h : Int), (v : Int), hdc, hac)) = unitP a m k ((h : Int), (v : Int), hdc, hac) := by
            unfold unitP; rw [Int.toNat_natCast, Int.toNat_natCast, hhv2'.out]
          rw [e5, ← hsn'.out] at O5; clear e5; have O5' := Lib.hid O5; clear O5
          go_wp2
          go_roundw
          case rel => exact ⟨k + 1, n + j, a4, c4, by omega, by omega, by go_num, rfl, hb3, O5', hbel3⟩
          case measure => simp [intOf]; omega
    · have hkn : k = pn := by omega
      subst hkn; have O5 := Ob.out; rw [List.take_of_length_le (Nat.le_of_eq hl'.out)] at O5; have O5' := Lib.hid O5; clear O5
      go_wp2
      go_ret
      exact ⟨a3, n, c3, rfl, hbel.out, own_mono O5'.out (Nat.le_succ _)⟩
end Go.Proofs.Ytpjopeojeglogaa
