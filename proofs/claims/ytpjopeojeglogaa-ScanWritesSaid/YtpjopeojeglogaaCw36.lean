/- Chapter 12, the document's side: May, Restarts. | Chapter 4, the document's side: Code. | Chapter 11 (plain): what the document's ways of telling sizes, numbers and blocks come to. | Chapter 11, the document's side: Size, Extra, Value, right. -/
import Derived.Test.YtpjopeojeglogaaCw17
import Derived.Test.YtpjopeojeglogaaCw05
import Derived.Test.YtpjopeojeglogaaCw35
import Derived.Test.YtpjopeojeglogaaCw19
import Derived.Test.YtpjopeojeglogaaCw03
import Derived.Test.YtpjopeojeglogaaCw20
namespace Go.Proofs.Ytpjopeojeglogaa
open Go.RowKit Tt
set_option linter.unusedVariables false
set_option linter.unusedSimpArgs false

/-- one table of codes: the question, from a variable that holds it -/
theorem rmayH_any {w : World} {h : HufM} (k : HufOk w h) (H : Array Value) (hH : (hufC h).toArray = H) :
    Calls Try.prog 68 #[.agg H] w fun e w' => e = .returned (.bool (mayH h)) ∧ Below w.heap.size w w' := by
  have := rmay04_any h.1.1 h.1.2 h.2.1 h.2.2.1 h.2.2.2 w k.len k.sl (by have := k.few; omega); unfold hV at this; rw [← hH]; exact this
set_option maxRecDepth 100000 in
set_option maxHeartbeats 4000000 in
theorem rmay12_any (s : ScT) (pa : Option Addr) (pn pc : Nat) (w : World) (hs : PtsR w pa pn pc s.ps) (hw1 : Wf s.ax) (hw2 : Wf s.dn) (hw3 : Wf s.iv) (hpw : ∀ p ∈ s.ps, Wf p.1 ∧ Wf p.2.1) :
    Calls Try.prog 21 #[.agg #[.int .i64 s.ax, .int .i64 s.dn, .slice pa pn pc, .int .i64 s.iv]] w fun e w' => e = .returned (.bool (mayS s)) ∧ Below w.heap.size w w' := by
  have hl := hs.ilen; have htop := @mayTop_no s; have hbad : ∀ (k : Nat) (p : PtM), s.ps[k]? = some p → mayPt p = false → mayS s = false := fun k p h1 h2 => mayS_bad h1 h2; have hend : mayTop s = true → (∀ (k : Nat) p, s.ps[k]? = some p → mayPt p = true) → mayS s = decide (sumPt s.ps ≤ 10) := mayS_end; have htp : (1 ≤ s.ax ∧ s.ax ≤ 512 ∧ 1 ≤ s.dn ∧ s.dn ≤ 512 ∧ 1 ≤ s.ps.length ∧ s.ps.length ≤ 4 ∧ 0 ≤ s.iv ∧ s.iv ≤ 65535) → mayTop s = true := fun h => decide_eq_true h; obtain ⟨ax, dn, iv, ps⟩ := s; simp only at hs hl htop hbad hend htp hw1 hw2 hw3 hpw ⊢; obtain ⟨R, hR⟩ : ∃ R, mayS ⟨ax, dn, iv, ps⟩ = R := ⟨_, rfl⟩; rw [hR] at htop hend ⊢; have hbad : ∀ (k : Nat) (p : PtM), ps[k]? = some p → mayPt p = false → R = false := fun k p h1 h2 => hR ▸ hbad k p h1 h2; have b1 := Blk.new w 24 #[.int .i64 ax, .int .i64 dn, .slice pa pn pc, .int .i64 iv]; have hb1 := (Below.refl w.heap.size w).alloc (Nat.le_refl _) (.cells #[.int .i64 ax, .int .i64 dn, .slice pa pn pc, .int .i64 iv] 24); obtain ⟨W1, hW1⟩ : ∃ W1, w.alloc (.cells #[.int .i64 ax, .int .i64 dn, .slice pa pn pc, .int .i64 iv] 24) = W1 := ⟨_, rfl⟩; rw [hW1] at b1 hb1; have k0 : W1.cell? ⟨w.heap.size, 0, none⟩ = some (.int .i64 ax) := b1.cell rfl; have k1 : W1.cell? ⟨w.heap.size, 1, none⟩ = some (.int .i64 dn) := b1.cell rfl; have k2 : W1.cell? ⟨w.heap.size, 2, none⟩ = some (.slice pa pn pc) := b1.cell rfl; have k3 : W1.cell? ⟨w.heap.size, 3, none⟩ = some (.int .i64 iv) := b1.cell rfl; rw [hl] at htop htp; have hs' := Lib.hid hs; have hl' := Lib.hid hl; have hR' := Lib.hid hR; have b1' := Lib.hid b1; have hb1' := Lib.hid hb1; have hW1' := Lib.hid hW1; have hpw' := Lib.hid hpw; have hbad' := Lib.hid hbad; have hend' := Lib.hid hend; have htop' := Lib.hid htop; have htp' := Lib.hid htp; clear hs hl hR b1 hb1 hW1 hpw hbad hend htop htp
  go_enter Try.func21, Try.ntmps21
  go_upto_region 1 with fail
  rw [hW1'.out]
  rcases (show (ax < 1) ∨ (¬ ax < 1 ∧ 512 < ax) ∨ (¬ ax < 1 ∧ ¬ 512 < ax ∧ dn < 1) ∨ (¬ ax < 1 ∧ ¬ 512 < ax ∧ ¬ dn < 1 ∧ 512 < dn) ∨ (¬ ax < 1 ∧ ¬ 512 < ax ∧ ¬ dn < 1 ∧ ¬ 512 < dn ∧ (pn : Int) < 1) ∨ (¬ ax < 1 ∧ ¬ 512 < ax ∧ ¬ dn < 1 ∧ ¬ 512 < dn ∧ ¬ (pn : Int) < 1 ∧ 4 < (pn : Int)) ∨ (¬ ax < 1 ∧ ¬ 512 < ax ∧ ¬ dn < 1 ∧ ¬ 512 < dn ∧ ¬ (pn : Int) < 1 ∧ ¬ 4 < (pn : Int) ∧ iv < 0) ∨ (¬ ax < 1 ∧ ¬ 512 < ax ∧ ¬ dn < 1 ∧ ¬ 512 < dn ∧ ¬ (pn : Int) < 1 ∧ ¬ 4 < (pn : Int) ∧ ¬ iv < 0 ∧ 65535 < iv) ∨ (¬ ax < 1 ∧ ¬ 512 < ax ∧ ¬ dn < 1 ∧ ¬ 512 < dn ∧ ¬ (pn : Int) < 1 ∧ ¬ 4 < (pn : Int) ∧ ¬ iv < 0 ∧ ¬ 65535 < iv) by omega) with d1 | ⟨d1, d2⟩ | ⟨d1, d2, d3⟩ | ⟨d1, d2, d3, d4⟩ | ⟨d1, d2, d3, d4, d5⟩ | ⟨d1, d2, d3, d4, d5, d6⟩ | ⟨d1, d2, d3, d4, d5, d6, d7⟩ | ⟨d1, d2, d3, d4, d5, d6, d7, d8⟩ | ⟨d1, d2, d3, d4, d5, d6, d7, d8⟩
  iterate 8
    · obtain rfl : R = false := htop'.out (by omega)
      go_wp2
      go_ret
      exact ⟨rfl, hb1'.out⟩
  have hend2 : (∀ (k : Nat) p, ps[k]? = some p → mayPt p = true) → R = decide (sumPt ps ≤ 10) := hend'.out (htp'.out (by omega)); have hp4 : pn ≤ 4 := by omega
  have hend2' := Lib.hid hend2; clear hend2
  go_wp2
  go_loopw [3, 4, 5] (fun sv jv _ wr => ∃ (k : Nat) (m : Int), k ≤ pn ∧ 0 ≤ m ∧ m ≤ 16 * k ∧ jv = .int .i64 k ∧ sv = .int .i64 m ∧ Hid (m = sumPt (ps.take k)) ∧ Hid (∀ (j : Nat) p, j < k → ps[j]? = some p → mayPt p = true) ∧ Hid (Blk wr w.heap.size 24 #[.int .i64 ax, .int .i64 dn, .slice pa pn pc, .int .i64 iv]) ∧ Hid (Below w.heap.size w wr)) (fun _ jv _ _ => pn - (intOf jv).toNat)
  case atStart => exact ⟨0, 0, by omega, by omega, by omega, rfl, rfl, Lib.hid rfl, Lib.hid (fun j p h => by omega), b1', hb1'⟩
  case round =>
    obtain ⟨k, m, hk, hm0, hm1, rfl, rfl, hsum, hall, hbk, hbel⟩ := hrel; have kp : wr.cell? ⟨w.heap.size, 2, none⟩ = some (.slice pa pn pc) := hbk.out.cell rfl
    by_cases hlt : k < pn
    · obtain ⟨p, hp⟩ : ∃ p, ps[k]? = some p := ⟨_, List.getElem?_eq_getElem (by rw [hl'.out]; exact hlt)⟩
      obtain ⟨bb, o, rfl, hbb, f⟩ := (hs'.out.mono hbel.out).elem hp; have hpm := List.mem_of_getElem? hp; have hpk := (hs'.out.ok p hpm).mono hbel.out; have hpwf := hpw'.out p hpm; obtain ⟨B, hB⟩ : ∃ B, (pC p).toArray = B := ⟨_, rfl⟩; have hcl := pC_len hpk; have hone := pC_one (p := p); have hB36 : B.size = 36 := by rw [← hB]; simpa using hcl
      rw [hB] at hone; obtain ⟨W2, hW2⟩ : ∃ W2, wr.alloc (.cells B 47) = W2 := ⟨_, rfl⟩; have hal := (Below.refl wr.heap.size wr).alloc (Nat.le_refl _) (.cells B 47); have hqb : Blk W2 wr.heap.size 47 B := by rw [← hW2]; exact Blk.new wr 47 B
      rw [hW2] at hal; have hbw := hbel.out.trans (hal.mono hbel.out.size); have hfields := fun W (b : Blk W wr.heap.size 47 B) => pB_cells (p := p) hpk.dc.len (hB ▸ b); have hsn := sumPt_snoc hp; have hbkp := hbad'.out k p hp; obtain ⟨H1, hH1⟩ : ∃ H, (hufC p.2.2.1).toArray = H := ⟨_, rfl⟩; obtain ⟨H2, hH2⟩ : ∃ H, (hufC p.2.2.2).toArray = H := ⟨_, rfl⟩; have hl1 := hufC_len hpk.dc.len; have hl2 := hufC_len hpk.ac.len; have HM1 := fun W (h : Below wr.heap.size wr W) => rmayH_any (hpk.dc.mono h) H1 hH1; have HM2 := fun W (h : Below wr.heap.size wr W) => rmayH_any (hpk.ac.mono h) H2 hH2; obtain ⟨r1, hr1⟩ : ∃ r, mayH p.2.2.1 = r := ⟨_, rfl⟩; obtain ⟨r2, hr2⟩ : ∃ r, mayH p.2.2.2 = r := ⟨_, rfl⟩; rw [hr1] at HM1; rw [hr2] at HM2; have hout := @mayPt_out p; have hdc := @mayPt_dc p; have hac := @mayPt_ac p; have hok := @mayPt_all p; rw [hr1] at hdc hok; rw [hr2] at hac hok; have h4 := @mul_four p.1 p.2.1; obtain ⟨z1, hz1⟩ : ∃ z, p.1 * p.2.1 = z := ⟨_, rfl⟩; rw [hz1] at h4 hsn; obtain ⟨x, hx⟩ : ∃ x, p.1 = x := ⟨_, rfl⟩; obtain ⟨y, hy⟩ : ∃ y, p.2.1 = y := ⟨_, rfl⟩; have hxy : x * y = z1 := by rw [← hx, ← hy]; exact hz1
      obtain ⟨k0, k1, k2, k3⟩ := hfields W2 hqb; rw [hx] at k0; rw [hy] at k1; have hfx : ∀ W, Blk W wr.heap.size 47 B → W.cell? ⟨wr.heap.size, 0, none⟩ = some (.int .i64 x) := fun W b => hx ▸ (hfields W b).1; have hfy : ∀ W, Blk W wr.heap.size 47 B → W.cell? ⟨wr.heap.size, 1, none⟩ = some (.int .i64 y) := fun W b => hy ▸ (hfields W b).2.1; rw [hx, hy] at hout hok h4 hpwf; obtain ⟨hxw, hyw⟩ := hpwf; clear hx hy hz1; have f' := Lib.hid f; have hpk' := Lib.hid hpk; have hB' := Lib.hid hB; have hcl' := Lib.hid hcl; have hp' := Lib.hid hp; have hone' := Lib.hid hone; have hB36' := Lib.hid hB36; have hal' := Lib.hid hal; have hqb' := Lib.hid hqb; have hW2' := Lib.hid hW2; have hbw' := Lib.hid hbw; have hfields' := Lib.hid hfields; have hsn' := Lib.hid hsn; have hbkp' := Lib.hid hbkp; have hH1' := Lib.hid hH1; have hH2' := Lib.hid hH2; have hl1' := Lib.hid hl1; have hl2' := Lib.hid hl2; have HM1' := Lib.hid HM1; have HM2' := Lib.hid HM2; have hr1' := Lib.hid hr1; have hr2' := Lib.hid hr2; have hout' := Lib.hid hout; have hdc' := Lib.hid hdc; have hac' := Lib.hid hac; have hok' := Lib.hid hok; have h4' := Lib.hid h4; have k2' := Lib.hid k2; have k3' := Lib.hid k3; have hfx' := Lib.hid hfx; have hfy' := Lib.hid hfy; clear f hpk hB hcl hp hone hB36 hal hqb hW2 hbw hfields hsn hbkp hH1 hH2 hl1 hl2 HM1 HM2 hr1 hr2 hout hdc hac hok h4 k2 k3 hfx hfy
      go_upto_region 8 with (first
        | (refine wpList_load_at rfl 47 (.tmp 56) rfl bb (o + k * 36) rfl (pC p) B hB'.out _ f'.out Try.underlying47 rfl 36 infoP hcl'.out ?_)
        | (refine wpList_store_row rfl 47 (.tmp 5) (.tmp 57) rfl wr.heap.size B rfl rfl 47 _ (heap_new _ _) (by rw [hB36'.out]; exact infoP) (by rw [hB36'.out]; rfl) hone'.out ?_))
      rw [setRow_alloc, hW2'.out]; clear kp
      rcases (show (x < 1) ∨ (¬ x < 1 ∧ 4 < x) ∨ (¬ x < 1 ∧ ¬ 4 < x ∧ y < 1) ∨ (¬ x < 1 ∧ ¬ 4 < x ∧ ¬ y < 1 ∧ 4 < y) ∨ (¬ x < 1 ∧ ¬ 4 < x ∧ ¬ y < 1 ∧ ¬ 4 < y) by omega) with d1 | ⟨d1, d2⟩ | ⟨d1, d2, d3⟩ | ⟨d1, d2, d3, d4⟩ | ⟨d1, d2, d3, d4⟩
      iterate 4
        · obtain rfl : R = false := hbkp'.out (hout'.out (by omega))
          go_wp2
          go_ret
          exact ⟨rfl, hbw'.out⟩
      have hxy4 := h4'.out (by omega); obtain ⟨hz1, hz2⟩ := hxy4; have k2 := k2'.out
      go_wp2_with (refine wpList_load_atW rfl 45 (.tmp 77) rfl wr.heap.size 2 rfl (hufC p.2.2.1) H1 hH1'.out _ k2 Try.underlying45 rfl 17 infoH17 hl1'.out ?_)
      refine (HM1'.out _ hal'.out).mono ?_; rintro e w2 ⟨rfl, hb2⟩; have hbw2 := hbw'.out.trans (hb2.mono hbw'.out.size); have hb12 := hal'.out.trans (hb2.mono hal'.out.size); have bk2 := hqb'.out.late hb2; have g0 := hfx'.out w2 bk2; have g1 := hfy'.out w2 bk2; have k3 := (hfields'.out w2 bk2).2.2.2; clear k2 k2' k3' hb2 k0 k1
      cases r1 with
      | false =>
        obtain rfl : R = false := hbkp'.out (hdc'.out rfl); have hbw2' := Lib.hid hbw2; have bk2' := Lib.hid bk2; have k3' := Lib.hid k3; have hb12' := Lib.hid hb12; clear hbw2 bk2 k3 hb12
        go_wp2
        go_ret
        exact ⟨rfl, hbw2'.out⟩
      | true =>
        have hbw2' := Lib.hid hbw2; have bk2' := Lib.hid bk2; have hb12' := Lib.hid hb12; clear hbw2 bk2 hb12
        go_wp2_with (refine wpList_load_atW rfl 45 (.tmp 83) rfl wr.heap.size 19 rfl (hufC p.2.2.2) H2 hH2'.out _ k3 Try.underlying45 rfl 17 infoH17 hl2'.out ?_)
        refine (HM2'.out _ hb12'.out).mono ?_; rintro e w3 ⟨rfl, hb3⟩; have hbw3 := hbw2'.out.trans (hb3.mono hbw2'.out.size); have bk3 := bk2'.out.late hb3; have hb13 := hb12'.out.trans (hb3.mono hb12'.out.size); clear hb3 k3 g0 g1; have g0 := hfx'.out w3 bk3; have g1 := hfy'.out w3 bk3
        cases r2 with
        | false =>
          obtain rfl : R = false := hbkp'.out (hac'.out rfl); have hbw3' := Lib.hid hbw3; have bk3' := Lib.hid bk3; clear hbw3 bk3
          go_wp2
          go_ret
          exact ⟨rfl, hbw3'.out⟩
        | true =>
          have hpok := hok'.out (by omega) trivial rfl
          have hall2 : ∀ (j : Nat) (q : PtM), j < k + 1 → ps[j]? = some q → mayPt q = true := fun j q hj hq => by
            rcases Nat.lt_or_ge j k with h | h
            · exact hall.out j q h hq
            · obtain rfl : j = k := by omega
              rw [hp'.out] at hq; injection hq with hq; rw [← hq]; exact hpok
          have hsum2 : m + z1 = sumPt (ps.take (k + 1)) := by rw [hsn'.out, hsum.out]
          have ew1 : IntKind.i64.wrap (x * y) = z1 := by rw [hxy, IntKind.wrap_i64]; omega
          have ew2 : IntKind.i64.wrap (m + z1) = m + z1 := by rw [IntKind.wrap_i64]; omega
          have hbs3 := hbk.out.late hb13; have hbw3' := Lib.hid hbw3; have bk3' := Lib.hid bk3; have hall2' := Lib.hid hall2; have hsum2' := Lib.hid hsum2; have hbs3' := Lib.hid hbs3; clear hbw3 bk3 hall2 hsum2 hbs3
          go_wp2
          go_roundw
          case rel => exact ⟨k + 1, m + z1, by omega, by omega, by omega, by go_num, by go_num, hsum2', hall2', hbs3', hbw3'⟩
          case measure => simp [intOf]; omega
    · have hkn : k = pn := by omega
      subst hkn
      have e1 : R = decide (m ≤ 10) := by
        rw [hend2'.out (fun j p hj => hall.out j p (by rw [← hl'.out]; exact (List.getElem?_eq_some_iff.1 hj).1) hj), hsum.out, List.take_of_length_le (Nat.le_of_eq hl'.out)]
      have e1' := Lib.hid e1; clear e1
      by_cases h10 : m ≤ 10
      · obtain rfl : R = true := by rw [e1'.out]; exact decide_eq_true h10
        go_wp2
        go_ret
        exact ⟨rfl, hbel.out⟩
      · obtain rfl : R = false := by rw [e1'.out]; exact decide_eq_false h10
        go_wp2
        go_ret
        exact ⟨rfl, hbel.out⟩
set_option maxRecDepth 100000 in
set_option maxHeartbeats 2000000 in
theorem rrest12_any (ax dn iv : Int) (pa : Option Addr) (pn pc n : Nat) (w : World) (h0 : 0 ≤ iv) (h1 : iv ≤ 65535) (hn : n ≤ 262144) :
    Calls Try.prog 97 #[.agg #[.int .i64 ax, .int .i64 dn, .slice pa pn pc, .int .i64 iv], .int .i64 n] w fun e w' => e = .returned (.bool (resS iv n)) ∧ Below w.heap.size w w' := by
  obtain ⟨i, rfl⟩ : ∃ i : Nat, iv = i := ⟨iv.toNat, by omega⟩; have b1 := Blk.new w 24 #[.int .i64 ax, .int .i64 dn, .slice pa pn pc, .int .i64 i]; have hb1 := (Below.refl w.heap.size w).alloc (Nat.le_refl _) (.cells #[.int .i64 ax, .int .i64 dn, .slice pa pn pc, .int .i64 i] 24); obtain ⟨W1, hW1⟩ : ∃ W1, w.alloc (.cells #[.int .i64 ax, .int .i64 dn, .slice pa pn pc, .int .i64 i] 24) = W1 := ⟨_, rfl⟩; rw [hW1] at b1 hb1; have k3 : W1.cell? ⟨w.heap.size, 3, none⟩ = some (.int .i64 i) := b1.cell rfl; obtain ⟨Q, hQ⟩ : ∃ Q, resS (i : Int) n = Q := ⟨_, rfl⟩; rw [hQ]; have b1' := Lib.hid b1; have hb1' := Lib.hid hb1; have hW1' := Lib.hid hW1; have hQ' := Lib.hid hQ; clear b1 hb1 hW1 hQ
  go_enter Try.func97, Try.ntmps97
  go_upto_region 1 with fail
  rw [hW1'.out]
  by_cases c1 : (0 : Int) < i
  · by_cases c2 : (0 : Int) < n
    · have e1 : Int.tmod (n : Int) (i : Int) = ((n % i : Nat) : Int) := (Int.ofNat_tmod n i).symm
      obtain ⟨r, hr⟩ : ∃ r, n % i = r := ⟨_, rfl⟩; have hr2 : r ≤ 262144 := by rw [← hr]; exact Nat.le_trans (Nat.mod_le _ _) hn
      rw [hr] at e1; have ine : ¬ (i : Int) = 0 := by omega
      have e2 : IntKind.i64.wrap (r : Int) = r := wrapN (by omega)
      have hres : Q = decide (r = 0) := by
        rw [← hQ'.out]; unfold resS; rw [Int.toNat_natCast, hr]; exact decide_eq_decide.2 ⟨fun h => h.2.2, fun h => ⟨c1, by omega, h⟩⟩
      clear hr
      by_cases c3 : (r : Int) = 0
      · obtain rfl : Q = true := hres.trans (decide_eq_true (by omega))
        clear hres
        go_wp2
        go_ret
        exact ⟨rfl, hb1'.out⟩
      · obtain rfl : Q = false := hres.trans (decide_eq_false (by omega))
        have c4 : ((r : Int) == 0) = false := by simpa using c3
        clear hres
        go_wp2
        go_ret
        exact ⟨rfl, hb1'.out⟩
    · obtain rfl : Q = false := hQ'.out ▸ decide_eq_false (by omega)
      go_wp2
      go_ret
      exact ⟨rfl, hb1'.out⟩
  · obtain rfl : Q = false := hQ'.out ▸ decide_eq_false (by omega)
    go_wp2
    go_ret
    exact ⟨rfl, hb1'.out⟩
end Go.Proofs.Ytpjopeojeglogaa

namespace Go.Proofs.Ytpjopeojeglogaa
open Go.RowKit Tt
set_option linter.unusedVariables false
set_option linter.unusedSimpArgs false

/-- a code as the document hands it back -/
def cdP (o : Option (Int × Nat)) : Array Value := #[.int .i64 (o.getD (0, 0)).1, .int .i64 ((o.getD (0, 0)).2 : Nat)]
theorem codeS_at {c s : List Int} {x : Int} (hm : hMay c s = true) {i : Nat} (hi : i < s.length) (h : s.getD i 0 = x) (hb : ∀ j, j < i → s.getD j 0 ≠ x) : codeS c s x = some ((codesS c).getD i (0, 0)) := by
  unfold codeS; rw [if_pos hm]
  have : (List.range s.length).find? (fun i => s.getD i 0 == x) = some i := by
    rw [List.find?_range_eq_some]; exact ⟨by simpa using h, List.mem_range.2 hi, fun j hj => by simpa using hb j hj⟩
  rw [this]
  rfl
theorem codeS_none {c s : List Int} {x : Int} (hb : ∀ j, j < s.length → s.getD j 0 ≠ x) : codeS c s x = none := by
  unfold codeS
  split
  · have : (List.range s.length).find? (fun i => s.getD i 0 == x) = none := by
      rw [List.find?_range_eq_none]; exact fun j hj => by simpa using hb j hj
    rw [this]
    rfl
  · rfl
def Cd04 (o : Option (Int × Nat)) (w : World) (e : Ending) (w' : World) : Prop := e = .returned (.agg (cdP o)) ∧ Below w.heap.size w w'
set_option maxRecDepth 100000 in
set_option maxHeartbeats 4000000 in
theorem rcode04_any (c s : List Int) (x : Int) (a : Option Addr) (n cp : Nat) (w : World) (hc : c.length = 16) (hm : hMay c s = true) (hs : Sl w a n cp 1 (ints .i64 s)) (hn : n ≤ 1000) :
    Calls Try.prog 75 #[hV c a n cp, .int .i64 x] w (Cd04 (codeS c s x) w) := by
  have hcl := codes_len hm; have hsl := hs.ilen; have hnn : (codesS c).length = n := hcl.trans hsl; have hMC := fun W (h : Below w.heap.size w W) => rmay04_any c s a n cp W hc (hs.mono h) (by omega); have hHC := fun W => rcodes_any c s a n cp W hc hm; simp only [hnn] at hHC; simp only [hm] at hMC; have hat := fun i => @codeS_at c s x hm i; have hno := @codeS_none c s x; obtain ⟨R, hR⟩ : ∃ R, codeS c s x = R := ⟨_, rfl⟩; rw [hR] at hno ⊢; have hat : ∀ i, i < s.length → s.getD i 0 = x → (∀ j, j < i → s.getD j 0 ≠ x) → R = some ((codesS c).getD i (0, 0)) := fun i h1 h2 h3 => hR ▸ hat i h1 h2 h3; unfold hV at hHC hMC ⊢; obtain ⟨B, hB⟩ : ∃ B, (ints .i64 c ++ [Value.slice a n cp]).toArray = B := ⟨_, rfl⟩; obtain ⟨W1, hW1, b1, b4, hb1, s1⟩ := two_boxes w 45 B 102 #[.int .i64 0, .int .i64 0]; have hcells : ∀ W, Blk W w.heap.size 45 B → W.cell? ⟨w.heap.size, 16, none⟩ = some (.slice a n cp) := fun W hb => (hf_cells (a := a) (n := n) (cp := cp) hc (hB ▸ hb)).2; have fcs : ∀ W, Blk W w.heap.size 45 B → ∀ j v, (ints .i64 c ++ [Value.slice a n cp])[j]? = some v → W.cell? ⟨w.heap.size, 0 + j, none⟩ = some v := fun W hb j v hv => hb.cell (by rw [← hB, Nat.zero_add, List.getElem?_toArray]; exact hv); have h17 := hV_len (a := a) (n := n) (cp := cp) hc; rw [hB] at hHC hMC ⊢; have f1 := fcs W1 b1; have hm' := Lib.hid hm; have b1' := Lib.hid b1; have b4' := Lib.hid b4; have hb1' := Lib.hid hb1; have hc' := Lib.hid hc; have hW1' := Lib.hid hW1; have hcells' := Lib.hid hcells; have fcs' := Lib.hid fcs; have h17' := Lib.hid h17; have hB' := Lib.hid hB; have hHC' := Lib.hid hHC; have hMC' := Lib.hid hMC; have hat' := Lib.hid hat; have hno' := Lib.hid hno; have hcl' := Lib.hid hcl; have hsl' := Lib.hid hsl; have hs' := Lib.hid hs; have hR' := Lib.hid hR; have hnn' := Lib.hid hnn; have s1' := Lib.hid s1; have f1' := Lib.hid f1; clear hm b1 b4 hb1 hc hW1 hcells fcs h17 hB hHC hMC hat hno hcl hsl hs hR hnn s1 f1
  go_enter Try.func75, Try.ntmps75
  go_upto_region 1 with fail
  rw [hW1'.out]
  go_wp2_with (refine wpList_load_at rfl 45 (.tmp 2) rfl w.heap.size 0 rfl _ B hB'.out _ f1'.out Try.underlying45 rfl 17 infoH17 h17'.out ?_)
  refine (hMC'.out W1 hb1'.out).mono ?_; rintro e w2 ⟨rfl, hb2⟩; have hbw2 := hb1'.out.trans (hb2.mono hb1'.out.size); have b2 := b1'.out.late hb2; have r2 := b4'.out.late hb2; have f2 := fcs'.out w2 b2; clear hb2; have b2' := Lib.hid b2; have r2' := Lib.hid r2; have hbw2' := Lib.hid hbw2; have f2' := Lib.hid f2; clear b2 r2 hbw2 f2
  go_wp2_with (refine wpList_load_at rfl 45 (.tmp 2) rfl w.heap.size 0 rfl _ B hB'.out _ f2'.out Try.underlying45 rfl 17 infoH17 h17'.out ?_)
  refine (hHC'.out w2).mono ?_; rintro e w3 ⟨a2, c2, rfl, hown, hb3⟩; have hown := own_mono hown (Nat.zero_le _); have hbw3 := hbw2'.out.trans (hb3.mono hbw2'.out.size); have b3 := b2'.out.late hb3; have r3 := r2'.out.late hb3; have S3 := (Sl.of_own hown).1; have k16 := hcells'.out w3 b3; have e0 : w3.cell? ⟨w.heap.size + 1, 0, none⟩ = some (.int .i64 0) := r3.cell rfl; have e1 : w3.cell? ⟨w.heap.size + 1, 1, none⟩ = some (.int .i64 0) := r3.cell rfl; have z0 := r3.frozen 0; have z1 := r3.frozen 1; have hgt : w.heap.size ≤ w.heap.size + 1 := Nat.le_succ _; have hfin : ∀ v u : Value, Below w.heap.size w ((w3.setCell ⟨w.heap.size + 1, 0, none⟩ v).setCell ⟨w.heap.size + 1, 1, none⟩ u) := fun v u => (hbw3.setCell (p := ⟨w.heap.size + 1, 0, none⟩) (Nat.le_succ _) v).setCell (p := ⟨w.heap.size + 1, 1, none⟩) (Nat.le_succ _) u; have hrow : ∀ v u : Value, Blk ((w3.setCell ⟨w.heap.size + 1, 0, none⟩ v).setCell ⟨w.heap.size + 1, 1, none⟩ u) (w.heap.size + 1) 102 #[v, u] := fun v u => (r3.set 0 v).set 1 u; clear hb3 hown hgt; have b3' := Lib.hid b3; have r3' := Lib.hid r3; have hbw3' := Lib.hid hbw3; have S3' := Lib.hid S3; have hfin' := Lib.hid hfin; have hrow' := Lib.hid hrow; clear b3 r3 hbw3 S3 hfin hrow
  go_wp2
  go_loopw [6] (fun iv wr => ∃ i : Nat, i ≤ n ∧ iv = .int .i64 i ∧ Hid (∀ j, j < i → s.getD j 0 ≠ x) ∧ wr = w3) (fun iv _ => n - (intOf iv).toNat)
  case atStart => exact ⟨0, by omega, rfl, Lib.hid (fun j hj => by omega), rfl⟩
  case round =>
    rename World => wo
    obtain ⟨i, hin, rfl, hall, hwo⟩ := hrel
    by_cases hlt : i < n
    · obtain ⟨y, hy⟩ : ∃ y, s[i]? = some y := ⟨_, List.getElem?_eq_getElem (by rw [hsl'.out]; exact hlt)⟩
      have hyd : s.getD i 0 = y := by rw [List.getD_eq_getElem?_getD, hy]; rfl
      obtain ⟨gs, os, rfl, hgs, fs⟩ := (hs'.out.mono hbw3'.out).at hlt; have fS : w3.cell? ⟨gs, os + i, none⟩ = some (.int .i64 y) := fs i _ (by unfold ints; rw [List.getElem?_map, hy]; rfl); subst hwo
      by_cases hyx : y = x
      · subst hyx
        obtain ⟨⟨xv, xn⟩, hx⟩ : ∃ z, (codesS c)[i]? = some z := ⟨_, List.getElem?_eq_getElem (by rw [hnn'.out]; exact hlt)⟩; have hxd : (codesS c).getD i (0, 0) = (xv, xn) := by rw [List.getD_eq_getElem?_getD, hx]; rfl
        have hRs := hat'.out i (by rw [hsl'.out]; exact hlt) hyd hall.out; rw [hxd] at hRs; obtain ⟨gq, oq, rfl, hgq, r0, r1⟩ := code_elem S3'.out hx; simp only at r0 r1; have hyy : (y == y) = true := by simp
        have hfin2 := hfin'.out (.int .i64 xv) (.int .i64 (xn : Int)); have hrow2 := hrow'.out (.int .i64 xv) (.int .i64 (xn : Int)); clear fs hyd; have hy' := Lib.hid hy; have hx' := Lib.hid hx; have hxd' := Lib.hid hxd; have hRs' := Lib.hid hRs; have hfin2' := Lib.hid hfin2; have hrow2' := Lib.hid hrow2; have hgs' := Lib.hid hgs; have hgq' := Lib.hid hgq; clear hy hx hxd hRs hfin2 hrow2 hgs hgq
        go_wp2
        refine bodyPost_ret (results_cell_row rfl _ _ (w.heap.size + 1) 102 #[.int .i64 xv, .int .i64 (xn : Int)] (0, 0) _ rfl hrow2'.out Try.underlying102 rfl (by kernel_rfl)) rfl ?_; exact ⟨by rw [hRs'.out]; rfl, hfin2'.out⟩
      · have hyy : (y == x) = false := by simpa using hyx
        have hall2 : ∀ j, j < i + 1 → s.getD j 0 ≠ x := fun j hj => by
          rcases Nat.lt_or_ge j i with h1 | h1
          · exact hall.out j h1
          · obtain rfl : j = i := by omega
            rw [hyd]; exact hyx
        clear fs hyd hyx; have hy' := Lib.hid hy; have hall2' := Lib.hid hall2; have hgs' := Lib.hid hgs; clear hy hall2 hgs
        go_wp2
        go_roundw
        case rel => exact ⟨i + 1, by omega, by go_num, hall2', by first | rfl | trivial⟩
        case measure => simp [intOf]; omega
    · have hRn := hno'.out (fun j hj => hall.out j (by rw [hsl'.out] at hj; omega))
      have hfin2 := hfin'.out (.int .i64 0) (.int .i64 0); have hrow2 := hrow'.out (.int .i64 0) (.int .i64 0); subst hwo; have hRn' := Lib.hid hRn; have hfin2' := Lib.hid hfin2; have hrow2' := Lib.hid hrow2; clear hRn hfin2 hrow2
      go_wp2
      refine bodyPost_ret (results_cell_row rfl _ _ (w.heap.size + 1) 102 #[.int .i64 0, .int .i64 0] (0, 0) _ rfl hrow2'.out Try.underlying102 rfl (by kernel_rfl)) rfl ?_; exact ⟨by rw [hRn'.out]; rfl, hfin2'.out⟩
end Go.Proofs.Ytpjopeojeglogaa

namespace Go.Proofs.Ytpjopeojeglogaa
open Go.RowKit Tt
set_option linter.unusedVariables false
set_option linter.unusedSimpArgs false

theorem size_in {v : Int} {n : Nat} : (-(2 ^ n) < v ∧ v < 2 ^ n) ↔ bitLen v.natAbs ≤ n := by
  rw [bitLen_le]; have e : ((2 ^ n : Nat) : Int) = 2 ^ n := by rw [Int.natCast_pow]; rfl
  constructor
  · intro h; omega
  · intro h; omega
theorem sizeS_at {v : Int} {n : Nat} (hn : n ≤ 15) (hl : n ≤ bitLen v.natAbs) (h : -(2 ^ n) < v ∧ v < 2 ^ n) : sizeS v = n := by
  rw [size_in] at h; unfold sizeS; rw [if_pos (by omega)]
  omega
theorem sizeS_next {v : Int} {n : Nat} (hl : n ≤ bitLen v.natAbs) (h : ¬ (-(2 ^ n) < v ∧ v < 2 ^ n)) : n + 1 ≤ bitLen v.natAbs := by
  rw [size_in] at h
  omega
theorem sizeS_over {v : Int} (hl : 16 ≤ bitLen v.natAbs) : sizeS v = -1 := by
  unfold sizeS; rw [if_neg (by omega)]
end Go.Proofs.Ytpjopeojeglogaa

namespace Go.Proofs.Ytpjopeojeglogaa
open Go.RowKit Tt
set_option linter.unusedVariables false
set_option linter.unusedSimpArgs false

theorem pow15 {n : Nat} (h : n ≤ 15) : (1 : Int) ≤ 2 ^ n ∧ (2 : Int) ^ n ≤ 32768 := by
  have h1 : 2 ^ n ≤ 2 ^ 15 := Nat.pow_le_pow_right (by decide) h; have h2 : 1 ≤ 2 ^ n := Nat.one_le_two_pow; have e : ((2 ^ n : Nat) : Int) = 2 ^ n := by rw [Int.natCast_pow]; rfl
  omega
set_option maxRecDepth 20000 in
set_option maxHeartbeats 1000000 in
theorem rsize11_any (v : Int) (w : World) (hv : Wf v) : Calls Try.prog 155 #[.int .i64 v] w fun e w' => e = .returned (.int .i64 (sizeS v)) ∧ w = w' := by
  obtain ⟨R, hR⟩ : ∃ R, sizeS v = R := ⟨_, rfl⟩; rw [hR]; have hv' := Lib.hid hv; have hR' := Lib.hid hR; clear hv hR
  go_enter Try.func155, Try.ntmps155
  go_wp2
  go_loopw [3] (fun iv wr => ∃ k : Nat, k ≤ 16 ∧ iv = .int .i64 k ∧ Hid (k ≤ bitLen v.natAbs) ∧ w = wr) (fun iv _ => 16 - (intOf iv).toNat)
  case atStart => exact ⟨0, by omega, rfl, Lib.hid (Nat.zero_le _), rfl⟩
  case round =>
    obtain ⟨k, hk, rfl, hle, rfl⟩ := hrel
    by_cases hlt : k < 16
    · obtain ⟨p1, p2⟩ := pow15 (n := k) (by omega)
      by_cases c1 : -(2 ^ k) < v
      · by_cases c2 : v < 2 ^ k
        · have hs := sizeS_at (by omega) hle.out ⟨c1, c2⟩
          rw [hR'.out] at hs; subst hs
          go_wp2
          go_ret
          exact ⟨rfl, rfl⟩
        · have hn := sizeS_next hle.out (fun h => c2 h.2)
          have hn' := Lib.hid hn; clear hn
          go_wp2
          go_roundw
          case rel => exact ⟨k + 1, by omega, by go_num, hn', trivial⟩
          case measure => simp [intOf]; omega
      · have hn := sizeS_next hle.out (fun h => c1 h.1)
        have hn' := Lib.hid hn; clear hn
        go_wp2
        go_roundw
        case rel => exact ⟨k + 1, by omega, by go_num, hn', trivial⟩
        case measure => simp [intOf]; omega
    · have hs := sizeS_over (v := v) (by have := hle.out; omega)
      rw [hR'.out] at hs; subst hs
      go_wp2
      go_ret
      exact ⟨rfl, rfl⟩
def bitC (V N : Int) : Value := .agg #[.int .i64 V, .int .i64 N]
set_option maxRecDepth 20000 in
set_option maxHeartbeats 1000000 in
theorem rextra_any (v : Int) (w : World) (hv : Wf v) (hs : 0 ≤ sizeS v) : Calls Try.prog 183 #[.int .i64 v] w fun e w' => e = .returned (bitC (extraV v) (sizeS v)) ∧ Below w.heap.size w w' := by
  have hsz : sizeS v = bitLen v.natAbs ∧ bitLen v.natAbs ≤ 15 := by rcases sizeS_cases v with h | h <;> omega
  obtain ⟨n, hn⟩ : ∃ n, bitLen v.natAbs = n := ⟨_, rfl⟩; have hin := size_in.2 (Nat.le_of_eq hn); have hex : extraV v = if v < 0 then v + 2 ^ n - 1 else v := by unfold extraV; rw [hn]
  rw [hn] at hsz; have HS := fun W => rsize11_any v W hv; rw [hsz.1] at HS; rw [hex, hsz.1]; obtain ⟨X, hX⟩ : ∃ X, (if v < 0 then v + 2 ^ n - 1 else v) = X := ⟨_, rfl⟩; rw [hX]; obtain ⟨p1, p2⟩ := pow15 hsz.2; have hal := (Below.refl w.heap.size w).alloc (Nat.le_refl _) (.cells #[.int .i64 0, .int .i64 0] 102); have bl := Blk.new w 102 #[.int .i64 0, .int .i64 0]; obtain ⟨W1, hW1⟩ : ∃ W, w.alloc (.cells #[.int .i64 0, .int .i64 0] 102) = W := ⟨_, rfl⟩; rw [hW1] at hal bl; obtain ⟨h1, h2⟩ := hin; have hw1 : wrap64 (2 ^ n) = 2 ^ n := by unfold wrap64; omega
  have hmin : min n 64 = n := by omega
  unfold bitC; clear hs hex hv hsz; have HS' := Lib.hid HS; have hal' := Lib.hid hal; have bl' := Lib.hid bl; have hW1' := Lib.hid hW1; have hn' := Lib.hid hn; clear HS hal bl hW1 hn
  go_enter Try.func183, Try.ntmps183
  go_upto_region 1 with fail
  rw [hW1'.out]
  go_wp2_with fail
  refine (HS'.out _).mono ?_; rintro e w2 ⟨rfl, rfl⟩
  by_cases c : v < 0
  · rw [if_pos c] at hX
    subst hX; have hw2 : wrap64 (v + 2 ^ n) = v + 2 ^ n := by unfold wrap64; omega
    have hw3 : wrap64 (v + 2 ^ n - 1) = v + 2 ^ n - 1 := by unfold wrap64; omega
    go_wp2_with (refine wpList_store_row rfl 102 (.tmp 2) (.tmp 14) rfl w.heap.size #[.int .i64 (v + 2 ^ n - 1), .int .i64 n] rfl rfl 102 _ bl'.out (by kernel_rfl) rfl (by kernel_rfl) ?_)
    refine bodyPost_ret (results_cell_row rfl _ _ w.heap.size _ _ (0, 0) _ rfl (Blk.rowH bl'.out _) Try.underlying102 rfl (by kernel_rfl)) rfl ?_; exact ⟨rfl, rowBelow hal'.out (Nat.le_refl _) _⟩
  · rw [if_neg c] at hX
    subst hX
    go_wp2_with (refine wpList_store_row rfl 102 (.tmp 2) (.tmp 17) rfl w.heap.size #[.int .i64 v, .int .i64 n] rfl rfl 102 _ bl'.out (by kernel_rfl) rfl (by kernel_rfl) ?_)
    refine bodyPost_ret (results_cell_row rfl _ _ w.heap.size _ _ (0, 0) _ rfl (Blk.rowH bl'.out _) Try.underlying102 rfl (by kernel_rfl)) rfl ?_; exact ⟨rfl, rowBelow hal'.out (Nat.le_refl _) _⟩
end Go.Proofs.Ytpjopeojeglogaa
