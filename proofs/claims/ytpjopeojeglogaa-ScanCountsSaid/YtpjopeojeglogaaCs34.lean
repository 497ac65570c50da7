/- Chapter 12, the document's side: May, Restarts. | Chapter 11 (plain): what the document's ways of telling sizes, numbers and blocks come to. | Chapter 11, the document's side: Size, Extra, Value, right. -/
import Derived.Test.YtpjopeojeglogaaCs17
import Derived.Test.YtpjopeojeglogaaCs05
import Derived.Test.YtpjopeojeglogaaCs19
import Derived.Test.YtpjopeojeglogaaCs02
import Derived.Test.YtpjopeojeglogaaCs20
namespace Go.Proofs.Ytpjopeojeglogaa
open Go.RowKit Tt
set_option linter.unusedVariables false
set_option linter.unusedSimpArgs false

/-- one table of codes: the question, from a variable that holds it -/
theorem rmayH_any {w : World} {h : HufM} (k : HufOk w h) (H : Array Value) (hH : (hufC h).toArray = H) :
    Calls Try.prog 68 #[.agg H] w fun e w' => e = .returned (.bool (mayH h)) ∧ Below w.heap.size w w' := by
  have := rmay04_any h.1.1 h.1.2 h.2.1 h.2.2.1 h.2.2.2 w k.len k.sl (by have := k.few; omega); unfold hV at this; rw [← hH]; exact this
set_option maxRecDepth 100000 in
set_option maxHeartbeats 4000000 in
theorem rmay12_any (s : ScT) (pa : Option Addr) (pn pc : Nat) (w : World) (hs : PtsR w pa pn pc s.ps) (hw1 : Wf s.ax) (hw2 : Wf s.dn) (hw3 : Wf s.iv) (hpw : ∀ p ∈ s.ps, Wf p.1 ∧ Wf p.2.1) :
    Calls Try.prog 21 #[.agg #[.int .i64 s.ax, .int .i64 s.dn, .slice pa pn pc, .int .i64 s.iv]] w fun e w' => e = .returned (.bool (mayS s)) ∧ Below w.heap.size w w' := by
  have hl := hs.ilen; have htop := @mayTop_no s; have hbad : ∀ (k : Nat) (p : PtM), s.ps[k]? = some p → mayPt p = false → mayS s = false := fun k p h1 h2 => mayS_bad h1 h2; have hend : mayTop s = true → (∀ (k : Nat) p, s.ps[k]? = some p → mayPt p = true) → mayS s = decide (sumPt s.ps ≤ 10) := mayS_end; have htp : (1 ≤ s.ax ∧ s.ax ≤ 512 ∧ 1 ≤ s.dn ∧ s.dn ≤ 512 ∧ 1 ≤ s.ps.length ∧ s.ps.length ≤ 4 ∧ 0 ≤ s.iv ∧ s.iv ≤ 65535) → mayTop s = true := fun h => decide_eq_true h; obtain ⟨ax, dn, iv, ps⟩ := s; simp only at hs hl htop hbad hend htp hw1 hw2 hw3 hpw ⊢; obtain ⟨R, hR⟩ : ∃ R, mayS ⟨ax, dn, iv, ps⟩ = R := ⟨_, rfl⟩; rw [hR] at htop hend ⊢; have hbad : ∀ (k : Nat) (p : PtM), ps[k]? = some p → mayPt p = false → R = false := fun k p h1 h2 => hR ▸ hbad k p h1 h2; have b1 := Blk.new w 24 #[.int .i64 ax, .int .i64 dn, .slice pa pn pc, .int .i64 iv]; have hb1 := (Below.refl w.heap.size w).alloc (Nat.le_refl _) (.cells #[.int .i64 ax, .int .i64 dn, .slice pa pn pc, .int .i64 iv] 24); obtain ⟨W1, hW1⟩ : ∃ W1, w.alloc (.cells #[.int .i64 ax, .int .i64 dn, .slice pa pn pc, .int .i64 iv] 24) = W1 := ⟨_, rfl⟩; rw [hW1] at b1 hb1; have k0 : W1.cell? ⟨w.heap.size, 0, none⟩ = some (.int .i64 ax) := b1.cell rfl; have k1 : W1.cell? ⟨w.heap.size, 1, none⟩ = some (.int .i64 dn) := b1.cell rfl; have k2 : W1.cell? ⟨w.heap.size, 2, none⟩ = some (.slice pa pn pc) := b1.cell rfl; have k3 : W1.cell? ⟨w.heap.size, 3, none⟩ = some (.int .i64 iv) := b1.cell rfl; rw [hl] at htop htp; have hs' := Lib.hid hs; have hl' := Lib.hid hl; have hR' := Lib.hid hR; have b1' := Lib.hid b1; have hb1' := Lib.hid hb1; have hW1' := Lib.hid hW1; have hpw' := Lib.hid hpw; have hbad' := Lib.hid hbad; have hend' := Lib.hid hend; have htop' := Lib.hid htop; have htp' := Lib.hid htp; clear hs hl hR b1 hb1 hW1 hpw hbad hend htop htp
  go_enter Try.func21, Try.ntmps21
  go_upto_region 1 with fail
  rw [hW1'.out]
  rcases (show (ax < 1) ∨ (¬ ax < 1 ∧ 512 < ax) ∨ (¬ ax < 1 ∧ ¬ 512 < ax ∧ dn < 1) ∨ (¬ ax < 1 ∧ ¬ 512 < ax ∧ ¬ dn < 1 ∧ 512 < dn) ∨ (¬ ax < 1 ∧ ¬ 512 < ax ∧ ¬ dn < 1 ∧ ¬ 512 < dn ∧ (pn : Int) < 1) ∨ (¬ ax < 1 ∧ ¬ 512 < ax ∧ ¬ dn < 1 ∧ ¬ 512 < dn ∧ ¬ (pn : Int) < 1 ∧ 4 < (pn : Int)) ∨ (¬ ax < 1 ∧ ¬ 512 < ax ∧ ¬ dn < 1 ∧ ¬ 512 < dn ∧ ¬ (pn : Int) < 1 ∧ ¬ 4 < (pn : Int) ∧ iv < 0) ∨ (¬ ax < 1 ∧ ¬ 512 < ax ∧ ¬ dn < 1 ∧ ¬ 512 < dn ∧ ¬ (pn : Int) < 1 ∧ ¬ 4 < (pn : Int) ∧ ¬ iv < 0 ∧ 65535 < iv) ∨ (¬ ax < 1 ∧ ¬ 512 < ax ∧ ¬ dn < 1 ∧ ¬ 512 < dn ∧ ¬ (pn : Int) < 1 ∧ ¬ 4 < (pn : Int) ∧ ¬ iv < 0 ∧ ¬ 65535 < iv) by omega) with d1 | ⟨d1, d2⟩ | ⟨d1, d2, d3⟩ | ⟨d1, d2, d3, d4⟩ | ⟨d1, d2, d3, d4, d5⟩ | ⟨d1, d2, d3, d4, d5, d6⟩ | ⟨d1, d2, d3, d4, d5, d6, d7⟩ | ⟨d1, d2, d3, d4, d5, d6, d7, d8⟩ | ⟨d1, d2, d3, d4, d5, d6, d7, d8⟩
  iterate 8
    · obtain rfl : R = false := htop'.out (by omega)
      go_wp2
      go_ret
      exact ⟨rfl, hb1'.out⟩
  have hend2 : (∀ (k : Nat) p, ps[k]? = some p → mayPt p = true) → R = decide (sumPt ps ≤ 10) := hend'.out (htp'.out (by omega)); have hp4 : pn ≤ 4 := by omega
  have hend2' := Lib.hid hend2; clear hend2
  go_wp2
  go_loopw [3, 4, 5] (fun sv jv _ wr => ∃ (k : Nat) (m : Int), k ≤ pn ∧ 0 ≤ m ∧ m ≤ 16 * k ∧ jv = .int .i64 k ∧ sv = .int .i64 m ∧ Hid (m = sumPt (ps.take k)) ∧ Hid (∀ (j : Nat) p, j < k → ps[j]? = some p → mayPt p = true) ∧ Hid (Blk wr w.heap.size 24 #[.int .i64 ax, .int .i64 dn, .slice pa pn pc, .int .i64 iv]) ∧ Hid (Below w.heap.size w wr)) (fun _ jv _ _ => pn - (intOf jv).toNat)
  case atStart => exact ⟨0, 0, by omega, by omega, by omega, rfl, rfl, Lib.hid rfl, Lib.hid (fun j p h => by omega), b1', hb1'⟩
  case round =>
    obtain ⟨k, m, hk, hm0, hm1, rfl, rfl, hsum, hall, hbk, hbel⟩ := hrel; have kp : wr.cell? ⟨w.heap.size, 2, none⟩ = some (.slice pa pn pc) := hbk.out.cell rfl
    by_cases hlt : k < pn
    · obtain ⟨p, hp⟩ : ∃ p, ps[k]? = some p := ⟨_, List.getElem?_eq_getElem (by rw [hl'.out]; exact hlt)⟩
      obtain ⟨bb, o, rfl, hbb, f⟩ := (hs'.out.mono hbel.out).elem hp; have hpm := List.mem_of_getElem? hp; have hpk := (hs'.out.ok p hpm).mono hbel.out; have hpwf := hpw'.out p hpm; obtain ⟨B, hB⟩ : ∃ B, (pC p).toArray = B := ⟨_, rfl⟩; have hcl := pC_len hpk; have hone := pC_one (p := p); have hB36 : B.size = 36 := by rw [← hB]; simpa using hcl
      rw [hB] at hone; obtain ⟨W2, hW2⟩ : ∃ W2, wr.alloc (.cells B 47) = W2 := ⟨_, rfl⟩; have hal := (Below.refl wr.heap.size wr).alloc (Nat.le_refl _) (.cells B 47); have hqb : Blk W2 wr.heap.size 47 B := by rw [← hW2]; exact Blk.new wr 47 B
      rw [hW2] at hal; have hbw := hbel.out.trans (hal.mono hbel.out.size); have hfields := fun W (b : Blk W wr.heap.size 47 B) => pB_cells (p := p) hpk.dc.len (hB ▸ b); have hsn := sumPt_snoc hp; have hbkp := hbad'.out k p hp; obtain ⟨H1, hH1⟩ : ∃ H, (hufC p.2.2.1).toArray = H := ⟨_, rfl⟩; obtain ⟨H2, hH2⟩ : ∃ H, (hufC p.2.2.2).toArray = H := ⟨_, rfl⟩; have hl1 := hufC_len hpk.dc.len; have hl2 := hufC_len hpk.ac.len; have HM1 := fun W (h : Below wr.heap.size wr W) => rmayH_any (hpk.dc.mono h) H1 hH1; have HM2 := fun W (h : Below wr.heap.size wr W) => rmayH_any (hpk.ac.mono h) H2 hH2; obtain ⟨r1, hr1⟩ : ∃ r, mayH p.2.2.1 = r := ⟨_, rfl⟩; obtain ⟨r2, hr2⟩ : ∃ r, mayH p.2.2.2 = r := ⟨_, rfl⟩; rw [hr1] at HM1; rw [hr2] at HM2; have hout := @mayPt_out p; have hdc := @mayPt_dc p; have hac := @mayPt_ac p; have hok := @mayPt_all p; rw [hr1] at hdc hok; rw [hr2] at hac hok; have h4 := @mul_four p.1 p.2.1; obtain ⟨z1, hz1⟩ : ∃ z, p.1 * p.2.1 = z := ⟨_, rfl⟩; rw [hz1] at h4 hsn; obtain ⟨x, hx⟩ : ∃ x, p.1 = x := ⟨_, rfl⟩; obtain ⟨y, hy⟩ : ∃ y, p.2.1 = y := ⟨_, rfl⟩; have hxy : x * y = z1 := by rw [← hx, ← hy]; exact hz1
      obtain ⟨k0, k1, k2, k3⟩ := hfields W2 hqb; rw [hx] at k0; rw [hy] at k1; have hfx : ∀ W, Blk W wr.heap.size 47 B → W.cell? ⟨wr.heap.size, 0, none⟩ = some (.int .i64 x) := fun W b => hx ▸ (hfields W b).1; have hfy : ∀ W, Blk W wr.heap.size 47 B → W.cell? ⟨wr.heap.size, 1, none⟩ = some (.int .i64 y) := fun W b => hy ▸ (hfields W b).2.1; rw [hx, hy] at hout hok h4 hpwf; obtain ⟨hxw, hyw⟩ := hpwf; clear hx hy hz1; have f' := Lib.hid f; have hpk' := Lib.hid hpk; have hB' := Lib.hid hB; have hcl' := Lib.hid hcl; have hp' := Lib.hid hp; have hone' := Lib.hid hone; have hB36' := Lib.hid hB36; have hal' := Lib.hid hal; have hqb' := Lib.hid hqb; have hW2' := Lib.hid hW2; have hbw' := Lib.hid hbw; have hfields' := Lib.hid hfields; have hsn' := Lib.hid hsn; have hbkp' := Lib.hid hbkp; have hH1' := Lib.hid hH1; have hH2' := Lib.hid hH2; have hl1' := Lib.hid hl1; have hl2' := Lib.hid hl2; have HM1' := Lib.hid HM1; have HM2' := Lib.hid HM2; have hr1' := Lib.hid hr1; have hr2' := Lib.hid hr2; have hout' := Lib.hid hout; have hdc' := Lib.hid hdc; have hac' := Lib.hid hac; have hok' := Lib.hid hok; have h4' := Lib.hid h4; have k2' := Lib.hid k2; have k3' := Lib.hid k3; have hfx' := Lib.hid hfx; have hfy' := Lib.hid hfy; clear f hpk hB hcl hp hone hB36 hal hqb hW2 hbw hfields hsn hbkp hH1 hH2 hl1 hl2 HM1 HM2 hr1 hr2 hout hdc hac hok h4 k2 k3 hfx hfy
      go_upto_region 8 with (first
        | (refine wpList_load_at rfl 47 (.tmp 56) rfl bb (o + k * 36) rfl (pC p) B hB'.out _ f'.out Try.underlying47 rfl 36 infoP hcl'.out ?_)
        | (refine wpList_store_row rfl 47 (.tmp 5) (.tmp 57) rfl wr.heap.size B rfl rfl 47 _ (heap_new _ _) (by rw [hB36'.out]; exact infoP) (by rw [hB36'.out]; rfl) hone'.out ?_))
      rw [setRow_alloc, hW2'.out]; clear kp
      rcases (show (x < 1) ∨ (¬ x < 1 ∧ 4 < x) ∨ (¬ x < 1 ∧ ¬ 4 < x ∧ y < 1) ∨ (¬ x < 1 ∧ ¬ 4 < x ∧ ¬ y < 1 ∧ 4 < y) ∨ (¬ x < 1 ∧ ¬ 4 < x ∧ ¬ y < 1 ∧ ¬ 4 < y) by omega) with d1 | ⟨d1, d2⟩ | ⟨d1, d2, d3⟩ | ⟨d1, d2, d3, d4⟩ | ⟨d1, d2, d3, d4⟩
      iterate 4
        · obtain rfl : R = false := hbkp'.out (hout'.out (by omega))
          go_wp2
          go_ret
          exact ⟨rfl, hbw'.out⟩
      have hxy4 := h4'.out (by omega); obtain ⟨hz1, hz2⟩ := hxy4; have k2 := k2'.out
      go_wp2_with (refine wpList_load_atW rfl 45 (.tmp 77) rfl wr.heap.size 2 rfl (hufC p.2.2.1) H1 hH1'.out _ k2 Try.underlying45 rfl 17 infoH17 hl1'.out ?_)
      refine (HM1'.out _ hal'.out).mono ?_; rintro e w2 ⟨rfl, hb2⟩; have hbw2 := hbw'.out.trans (hb2.mono hbw'.out.size); have hb12 := hal'.out.trans (hb2.mono hal'.out.size); have bk2 := hqb'.out.late hb2; have g0 := hfx'.out w2 bk2; have g1 := hfy'.out w2 bk2; have k3 := (hfields'.out w2 bk2).2.2.2; clear k2 k2' k3' hb2 k0 k1
      cases r1 with
      | false =>
        obtain rfl : R = false := hbkp'.out (hdc'.out rfl); have hbw2' := Lib.hid hbw2; have bk2' := Lib.hid bk2; have k3' := Lib.hid k3; have hb12' := Lib.hid hb12; clear hbw2 bk2 k3 hb12
        go_wp2
        go_ret
        exact ⟨rfl, hbw2'.out⟩
      | true =>
        have hbw2' := Lib.hid hbw2; have bk2' := Lib.hid bk2; have hb12' := Lib.hid hb12; clear hbw2 bk2 hb12
        go_wp2_with (refine wpList_load_atW rfl 45 (.tmp 83) rfl wr.heap.size 19 rfl (hufC p.2.2.2) H2 hH2'.out _ k3 Try.underlying45 rfl 17 infoH17 hl2'.out ?_)
        refine (HM2'.out _ hb12'.out).mono ?_; rintro e w3 ⟨rfl, hb3⟩; have hbw3 := hbw2'.out.trans (hb3.mono hbw2'.out.size); have bk3 := bk2'.out.late hb3; have hb13 := hb12'.out.trans (hb3.mono hb12'.out.size); clear hb3 k3 g0 g1; have g0 := hfx'.out w3 bk3; have g1 := hfy'.out w3 bk3
        cases r2 with
        | false =>
          obtain rfl : R = false := hbkp'.out (hac'.out rfl); have hbw3' := Lib.hid hbw3; have bk3' := Lib.hid bk3; clear hbw3 bk3
          go_wp2
          go_ret
          exact ⟨rfl, hbw3'.out⟩
        | true =>
          have hpok := hok'.out (by omega) trivial rfl
          have hall2 : ∀ (j : Nat) (q : PtM), j < k + 1 → ps[j]? = some q → mayPt q = true := fun j q hj hq => by
            rcases Nat.lt_or_ge j k with h | h
            · exact hall.out j q h hq
            · obtain rfl : j = k := by omega
              rw [hp'.out] at hq; injection hq with hq; rw [← hq]; exact hpok
          have hsum2 : m + z1 = sumPt (ps.take (k + 1)) := by rw [hsn'.out, hsum.out]
          have ew1 : IntKind.i64.wrap (x * y) = z1 := by rw [hxy, IntKind.wrap_i64]; omega
          have ew2 : IntKind.i64.wrap (m + z1) = m + z1 := by rw [IntKind.wrap_i64]; omega
          have hbs3 := hbk.out.late hb13; have hbw3' := Lib.hid hbw3; have bk3' := Lib.hid bk3; have hall2' := Lib.hid hall2; have hsum2' := Lib.hid hsum2; have hbs3' := Lib.hid hbs3; clear hbw3 bk3 hall2 hsum2 hbs3
          go_wp2
          go_roundw
          case rel => exact ⟨k + 1, m + z1, by omega, by omega, by omega, by go_num, by go_num, hsum2', hall2', hbs3', hbw3'⟩
          case measure => simp [intOf]; omega
    · have hkn : k = pn := by omega
      subst hkn
      have e1 : R = decide (m ≤ 10) := by
        rw [hend2'.out (fun j p hj => hall.out j p (by rw [← hl'.out]; exact (List.getElem?_eq_some_iff.1 hj).1) hj), hsum.out, List.take_of_length_le (Nat.le_of_eq hl'.out)]
      have e1' := Lib.hid e1; clear e1
      by_cases h10 : m ≤ 10
      · obtain rfl : R = true := by rw [e1'.out]; exact decide_eq_true h10
        go_wp2
        go_ret
        exact ⟨rfl, hbel.out⟩
      · obtain rfl : R = false := by rw [e1'.out]; exact decide_eq_false h10
        go_wp2
        go_ret
        exact ⟨rfl, hbel.out⟩
end Go.Proofs.Ytpjopeojeglogaa

namespace Go.Proofs.Ytpjopeojeglogaa
open Go.RowKit Tt
set_option linter.unusedVariables false
set_option linter.unusedSimpArgs false

theorem size_in {v : Int} {n : Nat} : (-(2 ^ n) < v ∧ v < 2 ^ n) ↔ bitLen v.natAbs ≤ n := by
  rw [bitLen_le]; have e : ((2 ^ n : Nat) : Int) = 2 ^ n := by rw [Int.natCast_pow]; rfl
  constructor
  · intro h; omega
  · intro h; omega
theorem sizeS_at {v : Int} {n : Nat} (hn : n ≤ 15) (hl : n ≤ bitLen v.natAbs) (h : -(2 ^ n) < v ∧ v < 2 ^ n) : sizeS v = n := by
  rw [size_in] at h; unfold sizeS; rw [if_pos (by omega)]
  omega
theorem sizeS_next {v : Int} {n : Nat} (hl : n ≤ bitLen v.natAbs) (h : ¬ (-(2 ^ n) < v ∧ v < 2 ^ n)) : n + 1 ≤ bitLen v.natAbs := by
  rw [size_in] at h
  omega
theorem sizeS_over {v : Int} (hl : 16 ≤ bitLen v.natAbs) : sizeS v = -1 := by
  unfold sizeS; rw [if_neg (by omega)]
end Go.Proofs.Ytpjopeojeglogaa

namespace Go.Proofs.Ytpjopeojeglogaa
open Go.RowKit Tt
set_option linter.unusedVariables false
set_option linter.unusedSimpArgs false

theorem pow15 {n : Nat} (h : n ≤ 15) : (1 : Int) ≤ 2 ^ n ∧ (2 : Int) ^ n ≤ 32768 := by
  have h1 : 2 ^ n ≤ 2 ^ 15 := Nat.pow_le_pow_right (by decide) h; have h2 : 1 ≤ 2 ^ n := Nat.one_le_two_pow; have e : ((2 ^ n : Nat) : Int) = 2 ^ n := by rw [Int.natCast_pow]; rfl
  omega
set_option maxRecDepth 20000 in
set_option maxHeartbeats 1000000 in
theorem rsize11_any (v : Int) (w : World) (hv : Wf v) : Calls Try.prog 155 #[.int .i64 v] w fun e w' => e = .returned (.int .i64 (sizeS v)) ∧ w = w' := by
  obtain ⟨R, hR⟩ : ∃ R, sizeS v = R := ⟨_, rfl⟩; rw [hR]; have hv' := Lib.hid hv; have hR' := Lib.hid hR; clear hv hR
  go_enter Try.func155, Try.ntmps155
  go_wp2
  go_loopw [3] (fun iv wr => ∃ k : Nat, k ≤ 16 ∧ iv = .int .i64 k ∧ Hid (k ≤ bitLen v.natAbs) ∧ w = wr) (fun iv _ => 16 - (intOf iv).toNat)
  case atStart => exact ⟨0, by omega, rfl, Lib.hid (Nat.zero_le _), rfl⟩
  case round =>
    obtain ⟨k, hk, rfl, hle, rfl⟩ := hrel
    by_cases hlt : k < 16
    · obtain ⟨p1, p2⟩ := pow15 (n := k) (by omega)
      by_cases c1 : -(2 ^ k) < v
      · by_cases c2 : v < 2 ^ k
        · have hs := sizeS_at (by omega) hle.out ⟨c1, c2⟩
          rw [hR'.out] at hs; subst hs
          go_wp2
          go_ret
          exact ⟨rfl, rfl⟩
        · have hn := sizeS_next hle.out (fun h => c2 h.2)
          have hn' := Lib.hid hn; clear hn
          go_wp2
          go_roundw
          case rel => exact ⟨k + 1, by omega, by go_num, hn', trivial⟩
          case measure => simp [intOf]; omega
      · have hn := sizeS_next hle.out (fun h => c1 h.1)
        have hn' := Lib.hid hn; clear hn
        go_wp2
        go_roundw
        case rel => exact ⟨k + 1, by omega, by go_num, hn', trivial⟩
        case measure => simp [intOf]; omega
    · have hs := sizeS_over (v := v) (by have := hle.out; omega)
      rw [hR'.out] at hs; subst hs
      go_wp2
      go_ret
      exact ⟨rfl, rfl⟩
def bitC (V N : Int) : Value := .agg #[.int .i64 V, .int .i64 N]
set_option maxRecDepth 20000 in
set_option maxHeartbeats 1000000 in
theorem rextra_any (v : Int) (w : World) (hv : Wf v) (hs : 0 ≤ sizeS v) : Calls Try.prog 183 #[.int .i64 v] w fun e w' => e = .returned (bitC (extraV v) (sizeS v)) ∧ Below w.heap.size w w' := by
  have hsz : sizeS v = bitLen v.natAbs ∧ bitLen v.natAbs ≤ 15 := by rcases sizeS_cases v with h | h <;> omega
  obtain ⟨n, hn⟩ : ∃ n, bitLen v.natAbs = n := ⟨_, rfl⟩; have hin := size_in.2 (Nat.le_of_eq hn); have hex : extraV v = if v < 0 then v + 2 ^ n - 1 else v := by unfold extraV; rw [hn]
  rw [hn] at hsz; have HS := fun W => rsize11_any v W hv; rw [hsz.1] at HS; rw [hex, hsz.1]; obtain ⟨X, hX⟩ : ∃ X, (if v < 0 then v + 2 ^ n - 1 else v) = X := ⟨_, rfl⟩; rw [hX]; obtain ⟨p1, p2⟩ := pow15 hsz.2; have hal := (Below.refl w.heap.size w).alloc (Nat.le_refl _) (.cells #[.int .i64 0, .int .i64 0] 102); have bl := Blk.new w 102 #[.int .i64 0, .int .i64 0]; obtain ⟨W1, hW1⟩ : ∃ W, w.alloc (.cells #[.int .i64 0, .int .i64 0] 102) = W := ⟨_, rfl⟩; rw [hW1] at hal bl; obtain ⟨h1, h2⟩ := hin; have hw1 : wrap64 (2 ^ n) = 2 ^ n := by unfold wrap64; omega
  have hmin : min n 64 = n := by omega
  unfold bitC; clear hs hex hv hsz; have HS' := Lib.hid HS; have hal' := Lib.hid hal; have bl' := Lib.hid bl; have hW1' := Lib.hid hW1; have hn' := Lib.hid hn; clear HS hal bl hW1 hn
  go_enter Try.func183, Try.ntmps183
  go_upto_region 1 with fail
  rw [hW1'.out]
  go_wp2_with fail
  refine (HS'.out _).mono ?_; rintro e w2 ⟨rfl, rfl⟩
  by_cases c : v < 0
  · rw [if_pos c] at hX
    subst hX; have hw2 : wrap64 (v + 2 ^ n) = v + 2 ^ n := by unfold wrap64; omega
    have hw3 : wrap64 (v + 2 ^ n - 1) = v + 2 ^ n - 1 := by unfold wrap64; omega
    go_wp2_with (refine wpList_store_row rfl 102 (.tmp 2) (.tmp 14) rfl w.heap.size #[.int .i64 (v + 2 ^ n - 1), .int .i64 n] rfl rfl 102 _ bl'.out (by kernel_rfl) rfl (by kernel_rfl) ?_)
    refine bodyPost_ret (results_cell_row rfl _ _ w.heap.size _ _ (0, 0) _ rfl (Blk.rowH bl'.out _) Try.underlying102 rfl (by kernel_rfl)) rfl ?_; exact ⟨rfl, rowBelow hal'.out (Nat.le_refl _) _⟩
  · rw [if_neg c] at hX
    subst hX
    go_wp2_with (refine wpList_store_row rfl 102 (.tmp 2) (.tmp 17) rfl w.heap.size #[.int .i64 v, .int .i64 n] rfl rfl 102 _ bl'.out (by kernel_rfl) rfl (by kernel_rfl) ?_)
    refine bodyPost_ret (results_cell_row rfl _ _ w.heap.size _ _ (0, 0) _ rfl (Blk.rowH bl'.out _) Try.underlying102 rfl (by kernel_rfl)) rfl ?_; exact ⟨rfl, rowBelow hal'.out (Nat.le_refl _) _⟩
end Go.Proofs.Ytpjopeojeglogaa
