/- Chapter 12, the document's side: Symbols. | Chapter 12 (plain): writing block by block, as the document does, is writing unit by unit. -/
import Derived.Test.YtpjopeojeglogaaCw37
import Derived.Test.YtpjopeojeglogaaCw38
import Derived.Test.YtpjopeojeglogaaCw29
import Derived.Test.YtpjopeojeglogaaCw19
namespace Go.Proofs.Ytpjopeojeglogaa
open Go.RowKit Tt
set_option linter.unusedVariables false
set_option linter.unusedSimpArgs false

set_option maxRecDepth 100000 in
set_option maxHeartbeats 4000000 in
theorem rsymbols_any (s : ScT) (bs : List BpM) (pa ba : Option Addr) (pn pc bn bc k : Nat) (w : World) (hs : PtsR w pa pn pc s.ps) (hb : BpsR w ba bn bc bs) (hmay : mayS s = true) (hwh : wholeS s (bs.map (·.1)) = true) (hk : k < (s.ax * s.dn).toNat * unitN s.ps) :
    Calls Try.prog 99 #[.agg #[.int .i64 s.ax, .int .i64 s.dn, .slice pa pn pc, .int .i64 s.iv], .slice ba bn bc, .int .i64 k] w (Cd11 (symsD s (bs.map (·.1)) (unitsS s.ax.toNat s.ps (s.ax * s.dn).toNat) k) w) := by
  have hl := hs.ilen; have hbl := hb.ilen; obtain ⟨htop, hpts, hsum⟩ := mayS_parts hmay; have hpn4 : pn ≤ 4 := by omega
  have hU12 := fun W (h : Below w.heap.size w W) => runit12_any s pa pn pc W (hs.mono h) hpts hpn4; have hO12 := fun W (h : Below w.heap.size w W) => rorder12_any s pa pn pc W (hs.mono h) hmay; obtain ⟨a, ha⟩ : ∃ a : Nat, s.ax = a := ⟨s.ax.toNat, by omega⟩; obtain ⟨d, hd⟩ : ∃ d : Nat, s.dn = d := ⟨s.dn.toNat, by omega⟩; obtain ⟨I, hI⟩ : ∃ I : Nat, s.iv = I := ⟨s.iv.toNat, by omega⟩; have ha512 : 1 ≤ a ∧ a ≤ 512 := by omega
  have hd512 : 1 ≤ d ∧ d ≤ 512 := by omega
  obtain ⟨N, hN⟩ : ∃ N, a * d = N := ⟨_, rfl⟩; have hNs : (s.ax * s.dn).toNat = N := by rw [ha, hd, ← Int.natCast_mul, hN]; rfl
  have hN2 : N ≤ 262144 := by rw [← hN]; exact Nat.le_trans (Nat.mul_le_mul ha512.2 hd512.2) (by omega)
  obtain ⟨U, hU⟩ : ∃ U, unitN s.ps = U := ⟨_, rfl⟩; have hul := unitS_len (a := a) hpts (by rw [hl]; exact hpn4) 0; rw [unitS_many, hU] at hul; have hU0 : 0 < U := by rcases Nat.eq_zero_or_pos U with h | h; (rw [hU, h] at hk; omega); exact h
  obtain ⟨UU, hUU⟩ : ∃ UU, unitsS a s.ps N = UU := ⟨_, rfl⟩; have hpl := fun j (hj : j < N * U) => place_whole hwh ha hd hN hU ha512.1 hpts hj; have hUl : UU.length = N * U := by rw [← hUU, unitsS_len, hU]
  rw [hNs, hU] at hk; obtain ⟨NU, hNU⟩ : ∃ q, N * U = q := ⟨_, rfl⟩; have hNU2 : NU ≤ 16777216 := by rw [← hNU]; exact Nat.le_trans (Nat.mul_le_mul hN2 hul) (by decide)
  have hord : orderS s = placesI UU := by unfold orderS; rw [ha, Int.toNat_natCast, ← ha, hNs, hUU]
  rw [hNU] at hk hpl hUl; rw [hUU] at hpl; have hfst := firstD_le s.iv U k; have hR : symsD s (bs.map (·.1)) (unitsS s.ax.toNat s.ps (s.ax * s.dn).toNat) k = symsD s (bs.map (·.1)) UU k := by rw [hNs, ha, Int.toNat_natCast, hUU]
  rw [hR]; obtain ⟨R, hRR⟩ : ∃ R, symsD s (bs.map (·.1)) UU k = R := ⟨_, rfl⟩; have hsy : symsD s (bs.map (·.1)) UU k = codeB (blkB (bs.map (·.1)) (UU.getD k (0, 0))) (lastD (bs.map (·.1)) (UU.getD k (0, 0)).1 ((UU.take k).drop (firstD s.iv U k))) := by unfold symsD; rw [hU]
  rw [hRR] at hsy ⊢; obtain ⟨f, hf⟩ : ∃ f, firstD s.iv U k = f := ⟨_, rfl⟩; have hfd : f = if 0 < s.iv then k / U / s.iv.toNat * s.iv.toNat * U else 0 := by rw [← hf]; rfl
  rw [hf] at hfst hsy; rw [hI, Int.toNat_natCast] at hfd; rw [hU, ha, hd, hI] at hU12; rw [ha, hd, hI] at hO12 ⊢; obtain ⟨y, py, By, xy, hy, hpy, hBy, hxy, hblk⟩ := hpl k hk; have hyd : UU.getD k (0, 0) = y := by rw [List.getD_eq_getElem?_getD, hy]; rfl
  rw [hyd, hblk] at hsy; obtain ⟨y0, y1⟩ := y; simp only at hpy hBy hxy hsy; have b1 := Blk.new w 24 #[.int .i64 (a : Int), .int .i64 (d : Int), .slice pa pn pc, .int .i64 (I : Int)]; have hb1 := (Below.refl w.heap.size w).alloc (Nat.le_refl _) (.cells #[.int .i64 (a : Int), .int .i64 (d : Int), .slice pa pn pc, .int .i64 (I : Int)] 24); obtain ⟨W1, hW1⟩ : ∃ W1, w.alloc (.cells #[.int .i64 (a : Int), .int .i64 (d : Int), .slice pa pn pc, .int .i64 (I : Int)] 24) = W1 := ⟨_, rfl⟩; rw [hW1] at b1 hb1; have hcs : ∀ W, Blk W w.heap.size 24 #[.int .i64 (a : Int), .int .i64 (d : Int), .slice pa pn pc, .int .i64 (I : Int)] → W.cell? ⟨w.heap.size, 0, none⟩ = some (.int .i64 (a : Int)) ∧ W.cell? ⟨w.heap.size, 1, none⟩ = some (.int .i64 (d : Int)) ∧ W.cell? ⟨w.heap.size, 2, none⟩ = some (.slice pa pn pc) ∧ W.cell? ⟨w.heap.size, 3, none⟩ = some (.int .i64 (I : Int)) := fun W b => ⟨b.cell rfl, b.cell rfl, b.cell rfl, b.cell rfl⟩; have hI65 : I ≤ 65535 := by omega
  obtain ⟨k0, k1, k2, k3⟩ := hcs W1 b1; clear hul hsum hR; have hs' := Lib.hid hs; have hb' := Lib.hid hb; have hl' := Lib.hid hl; have hbl' := Lib.hid hbl; have hmay' := Lib.hid hmay; have hwh' := Lib.hid hwh; have htop' := Lib.hid htop; have hpts' := Lib.hid hpts; have hU12' := Lib.hid hU12; have hO12' := Lib.hid hO12; have ha' := Lib.hid ha; have hd' := Lib.hid hd; have hI' := Lib.hid hI; have ha512' := Lib.hid ha512; have hd512' := Lib.hid hd512; have hN' := Lib.hid hN; have hNs' := Lib.hid hNs; have hU' := Lib.hid hU; have hUU' := Lib.hid hUU; have hpl' := Lib.hid hpl; have hUl' := Lib.hid hUl; have hNU' := Lib.hid hNU; have hord' := Lib.hid hord; have hRR' := Lib.hid hRR; have hsy' := Lib.hid hsy; have hf' := Lib.hid hf; have hfd' := Lib.hid hfd; have hy' := Lib.hid hy; have hpy' := Lib.hid hpy; have hBy' := Lib.hid hBy; have hxy' := Lib.hid hxy; have hblk' := Lib.hid hblk; have hyd' := Lib.hid hyd; have b1' := Lib.hid b1; have hb1' := Lib.hid hb1; have hW1' := Lib.hid hW1; have hcs' := Lib.hid hcs; clear hs hb hl hbl hmay hwh htop hpts hU12 hO12 ha hd hI ha512 hd512 hN hNs hU hUU hpl hUl hNU hord hRR hsy hf hfd hy hpy hBy hxy hblk hyd b1 hb1 hW1 hcs
  go_enter Try.func99, Try.ntmps99
  go_upto_region 1 with fail
  rw [hW1'.out]
  go_wp2_with fail
  refine (hO12'.out W1 hb1'.out).mono ?_; rintro e w2 ⟨oa, on, oc, rfl, ho2, hb2⟩; have hbw2 := hb1'.out.trans (hb2.mono hb1'.out.size); have b2 := b1'.out.late hb2; have so2 := (Sl.of_own ho2).1; rw [hord'.out] at so2
  have hon : on = 2 * NU := by
    have h1 := so2.ilen; rw [placesI_len, hUl'.out] at h1
    omega
  clear hb2 ho2 k0 k1 k2 k3; obtain ⟨k0, k1, k2, k3⟩ := hcs'.out w2 b2; have hbw2' := Lib.hid hbw2; have b2' := Lib.hid b2; have so2' := Lib.hid so2; clear hbw2 b2 so2
  go_wp2_with fail
  refine (hU12'.out w2 hbw2'.out).mono ?_; rintro e w3 ⟨rfl, hb3⟩; have hbw3 := hbw2'.out.trans (hb3.mono hbw2'.out.size); have b3 := b2'.out.late hb3; have so3 := so2'.out.mono hb3; subst hon; clear hb3 k0 k1 k2; obtain ⟨k0, k1, k2, k3⟩ := hcs'.out w3 b3; obtain ⟨ob, oo, hoa, hobb, fo⟩ := so3.at (show 2 * k < 2 * NU by omega); have hfo := fun j y (h : UU[j]? = some y) => (⟨fo (2 * j) _ (by unfold ints; rw [List.getElem?_map, (placesI_get UU j y h).1]; rfl), fo (2 * j + 1) _ (by unfold ints; rw [List.getElem?_map, (placesI_get UU j y h).2]; rfl)⟩ : w3.cell? ⟨ob, oo + 2 * j, none⟩ = some (.int .i64 (y.1 : Int)) ∧ w3.cell? ⟨ob, oo + (2 * j + 1), none⟩ = some (.int .i64 (y.2 : Int))); obtain ⟨q0, q1⟩ := hfo k _ hy'.out; simp only at q0 q1; subst hoa; clear fo; have hbw3' := Lib.hid hbw3; have b3' := Lib.hid b3; have so3' := Lib.hid so3; have hobb' := Lib.hid hobb; have hfo' := Lib.hid hfo; clear hbw3 b3 so3 hobb hfo
  go_upto_region 3 with fail
  go_quiet (fail)
  have l4 := Qt.below (⟨nq, rfl⟩ : Qt w3 (w3.drewN nq)) w3.heap.size; obtain ⟨w4, hw4⟩ : ∃ W, w3.drewN nq = W := ⟨_, rfl⟩; rw [hw4] at l4 ⊢; have hbw4 := hbw3'.out.trans (l4.mono hbw3'.out.size); have b4 := b3'.out.late l4; have hfo4 := fun j y h => (⟨(l4.cell (p := ⟨ob, _, none⟩) hobb'.out).trans (hfo'.out j y h).1, (l4.cell (p := ⟨ob, _, none⟩) hobb'.out).trans (hfo'.out j y h).2⟩ : w4.cell? ⟨ob, oo + 2 * j, none⟩ = some (.int .i64 (y.1 : Int)) ∧ w4.cell? ⟨ob, oo + (2 * j + 1), none⟩ = some (.int .i64 (y.2 : Int))); have hob4 : ob < w4.heap.size := Nat.lt_of_lt_of_le hobb'.out l4.size; clear l4 hw4 q0 q1 k0 k1 k2 k3; obtain ⟨k0, k1, k2, k3⟩ := hcs'.out w4 b4
  obtain ⟨bm, hbm, hbm1⟩ : ∃ bm, bs[y0]? = some bm ∧ bm.1 = By := by
    have h1 := hBy'.out; rw [List.getElem?_map] at h1
    cases h : bs[y0]? with
    | none => rw [h] at h1; cases h1
    | some bm => rw [h] at h1; injection h1 with h1; exact ⟨bm, rfl, h1⟩
  have hbok := hb'.out.ok bm (List.mem_of_getElem? hbm); clear k0 k1 k2; have hbw4' := Lib.hid hbw4; have b4' := Lib.hid b4; have hfo4' := Lib.hid hfo4; have hob4' := Lib.hid hob4; have hbm' := Lib.hid hbm; have hbm1' := Lib.hid hbm1; have hbok' := Lib.hid hbok; clear hbw4 b4 hfo4 hob4 hbm hbm1 hbok
  go_upto_if 32 with fail
  go_cut [12] from 15 (fun v wx => v = .int .i64 f ∧ Hid (Below w4.heap.size w4 wx))
  case first =>
    by_cases hI0 : 0 < I
    · obtain ⟨n, hn⟩ : ∃ n, k / U = n := ⟨_, rfl⟩
      obtain ⟨q, hq⟩ : ∃ q, n / I = q := ⟨_, rfl⟩; obtain ⟨m, hm⟩ : ∃ m, q * I = m := ⟨_, rfl⟩; have hmn : m ≤ n := by rw [← hm, ← hq]; exact Nat.div_mul_le_self _ _
      have hnk : n ≤ k := by rw [← hn]; exact Nat.div_le_self _ _
      have hqn : q ≤ n := by rw [← hq]; exact Nat.div_le_self _ _
      have hff : m * U = f := by rw [hfd'.out, if_pos (by omega), hn, hq, hm]
      have hUz : ¬ (U : Int) = 0 := by have := hU0; omega
      have hIz : ¬ (I : Int) = 0 := by omega
      have e1 : Int.tdiv (k : Int) (U : Int) = (n : Int) := by rw [← hn]; exact (Int.ofNat_tdiv k U).symm
      have e2 : Int.tdiv (n : Int) (I : Int) = (q : Int) := by rw [← hq]; exact (Int.ofNat_tdiv n I).symm
      have e3 : IntKind.i64.wrap ((q : Int) * I) = (m : Int) := by rw [← Int.natCast_mul, hm]; exact wrapN (by omega)
      have e4 : IntKind.i64.wrap ((m : Int) * U) = (f : Int) := by rw [← Int.natCast_mul, hff]; exact wrapN (by omega)
      clear hn hq hm hff
      go_wp2
      go_quiet (fail)
      go_wp2
      go_meet
      case rel => exact ⟨rfl, Lib.hid (Qt.below ⟨_, rfl⟩ _)⟩
    · obtain rfl : I = 0 := by omega
      have hf0 : f = 0 := by rw [hfd'.out, if_neg (by omega)]
      subst hf0
      go_wp2
      go_meet
      case rel => exact ⟨rfl, Lib.hid (Below.refl _ _)⟩
  case rest =>
  obtain ⟨rfl, hb5⟩ := hcut
  rename World => w5
  clear k3; have hl0 : (UU.take f).drop f = [] := List.drop_of_length_le (by rw [List.length_take]; exact Nat.min_le_left _ _)
  go_wp2
  go_loopw [13, 14] (fun lv iv wr => ∃ (i : Nat) (la : Int), f ≤ i ∧ i ≤ k ∧ iv = .int .i64 i ∧ lv = .int .i64 la ∧ Hid (la = lastD (bs.map (·.1)) y0 ((UU.take i).drop f)) ∧ Hid (Wf la) ∧ Hid (Below w4.heap.size w4 wr)) (fun _ iv _ => k - (intOf iv).toNat)
  case atStart => exact ⟨f, 0, by omega, hfst, rfl, rfl, Lib.hid (by rw [hl0]; rfl), Lib.hid (by unfold Wf; omega), hb5⟩
  case round =>
    rename World => wr
    obtain ⟨i, la, hfi, hik, rfl, rfl, hla, hlw, hbel⟩ := hrel
    by_cases hlt : i < k
    · obtain ⟨z, pz, Bz, xz, hz, hpz, hBz, hxz, hblz⟩ := hpl'.out i (by omega)
      obtain ⟨q0, q1⟩ := hfo4'.out i z hz; have q0 := (hbel.out.cell (p := ⟨ob, _, none⟩) hob4'.out).trans q0; have q1 := (hbel.out.cell (p := ⟨ob, _, none⟩) hob4'.out).trans q1; have htd := take_drop_snoc hfi hz; have hbwr := hbw4'.out.trans (hbel.out.mono hbw4'.out.size); have hls := @lastD_snoc (bs.map (·.1)) y0 ((UU.take i).drop f) z; rw [hblz, ← htd, ← hla.out] at hls; obtain ⟨z0, z1⟩ := z; simp only at q0 q1 hls hBz hxz
      by_cases hzy : z0 = y0
      · subst hzy
        rw [if_pos rfl] at hls
        have hBe : Bz = By := by
          have h1 := hBz.symm.trans hBy'.out; injection h1
        subst hBe; obtain ⟨bg, bo, hba, hbg, cB⟩ := (hb'.out.mono hbwr).elem hbm'.out; obtain ⟨xg, xo, hxa, hxg, cX⟩ := (hbok'.out.mono hbwr).row (k := z1) (x := xz) (by rw [hbm1'.out]; exact hxz); have hx64 : xz.length = 64 := hbok'.out.len xz (by rw [hbm1'.out]; exact List.mem_of_getElem? hxz); obtain ⟨x0, hx0⟩ : ∃ x0, xz.getD 0 0 = x0 := ⟨_, rfl⟩; have c0 : wr.cell? ⟨xg, xo + z1 * 64, none⟩ = some (.int .i64 x0) := cX 0 _ (by rw [← hx0]; exact ints_get (by omega)); have hxw : Wf x0 := wf_bd (hbok'.out.wf xz (by rw [hbm1'.out]; exact List.mem_of_getElem? hxz) x0 (by rw [← hx0]; exact get_mem (by omega))); rw [hx0] at hls; have cB2 : wr.cell? ⟨bg, bo + z0, none⟩ = some (.slice (some ⟨xg, xo, none⟩) bm.2.2.1 bm.2.2.2) := by rw [cB]; unfold bpV; rw [hxa]
        have hz1n : z1 < bm.2.2.1 := by
          rw [← hbok'.out.ilen, hbm1'.out]; exact (List.getElem?_eq_some_iff.1 hxz).1
        obtain ⟨bl2, hbl2⟩ : ∃ n, bm.2.2.1 = n := ⟨_, rfl⟩; obtain ⟨bc2, hbc2⟩ : ∃ n, bm.2.2.2 = n := ⟨_, rfl⟩; rw [hbl2] at hz1n cB2; rw [hbc2] at cB2; have hyn : z0 < bn := by rw [← hbl'.out]; exact (List.getElem?_eq_some_iff.1 hbm'.out).1
        have hyy : ((z0 : Int) == (z0 : Int)) = true := by simp
        subst hba; clear cX cB hBz; have hz' := Lib.hid hz; have hpz' := Lib.hid hpz; have hxz' := Lib.hid hxz; have hblz' := Lib.hid hblz; have htd' := Lib.hid htd; have hls' := Lib.hid hls; have hbwr' := Lib.hid hbwr; have hbg' := Lib.hid hbg; have hxa' := Lib.hid hxa; have hxg' := Lib.hid hxg; have hx64' := Lib.hid hx64; have hx0' := Lib.hid hx0; have hxw' := Lib.hid hxw; have hbl2' := Lib.hid hbl2; have hbc2' := Lib.hid hbc2; clear hz hpz hxz hblz htd hls hbwr hbg hxa hxg hx64 hx0 hxw hbl2 hbc2
        go_wp2
        go_quiet (fail)
        go_wp2
        go_roundw
        case rel => exact ⟨i + 1, x0, by omega, by omega, by go_num, rfl, Lib.hid hls'.out.symm, hxw', Lib.hid (below_dN hbel.out)⟩
        case measure => simp [intOf]; omega
      · rw [if_neg hzy] at hls
        have hyy : ((z0 : Int) == (y0 : Int)) = false := by simp; omega
        clear hzy; have hz' := Lib.hid hz; have hpz' := Lib.hid hpz; have hxz' := Lib.hid hxz; have hblz' := Lib.hid hblz; have htd' := Lib.hid htd; have hls' := Lib.hid hls; have hbwr' := Lib.hid hbwr; have hBz' := Lib.hid hBz; clear hz hpz hxz hblz htd hls hbwr hBz
        go_wp2
        go_roundw
        case rel => exact ⟨i + 1, la, by omega, by omega, by go_num, rfl, Lib.hid hls'.out.symm, hlw, hbel⟩
        case measure => simp [intOf]; omega
    · obtain rfl : i = k := by omega
      have hbwr := hbw4'.out.trans (hbel.out.mono hbw4'.out.size); obtain ⟨bg, bo, hba, hbg, cB⟩ := (hb'.out.mono hbwr).elem hbm'.out; obtain ⟨xg, xo, hxa, hxg, cX⟩ := (hbok'.out.mono hbwr).row (k := y1) (x := xy) (by rw [hbm1'.out]; exact hxy'.out); have hx64 : xy.length = 64 := hbok'.out.len xy (by rw [hbm1'.out]; exact List.mem_of_getElem? hxy'.out); have cB2 : wr.cell? ⟨bg, bo + y0, none⟩ = some (.slice (some ⟨xg, xo, none⟩) bm.2.2.1 bm.2.2.2) := by rw [cB]; unfold bpV; rw [hxa]
      have hz1n : y1 < bm.2.2.1 := by
        rw [← hbok'.out.ilen, hbm1'.out]; exact (List.getElem?_eq_some_iff.1 hxy'.out).1
      obtain ⟨bl2, hbl2⟩ : ∃ n, bm.2.2.1 = n := ⟨_, rfl⟩; obtain ⟨bc2, hbc2⟩ : ∃ n, bm.2.2.2 = n := ⟨_, rfl⟩; rw [hbl2] at hz1n cB2; rw [hbc2] at cB2; have hyn : y0 < bn := by rw [← hbl'.out]; exact (List.getElem?_eq_some_iff.1 hbm'.out).1
      obtain ⟨A, hA⟩ : ∃ A, (ints .i64 xy).toArray = A := ⟨_, rfl⟩; have hxi : (ints .i64 xy).length = 64 := by rw [ints_len]; exact hx64
      have HC := rcode11_any xy A hA la wr hx64 (fun x hx => wf_bd (hbok'.out.wf xy (by rw [hbm1'.out]; exact List.mem_of_getElem? hxy'.out) x hx)) hlw.out; have hRe : codeB xy la = R := by rw [hsy'.out, hla.out]
      rw [hRe] at HC; subst hba; clear cB hRe hlt; have hbwr' := Lib.hid hbwr; have hbg' := Lib.hid hbg; have hxa' := Lib.hid hxa; have hxg' := Lib.hid hxg; have hx64' := Lib.hid hx64; have hbl2' := Lib.hid hbl2; have hbc2' := Lib.hid hbc2; have hA' := Lib.hid hA; have hxi' := Lib.hid hxi; have HC' := Lib.hid HC; have cX' := Lib.hid cX; clear hbwr hbg hxa hxg hx64 hbl2 hbc2 hA hxi HC cX
      go_upto_region 13 with fail
      go_wp2_with (refine wpList_load_at rfl 129 (.tmp 75) rfl xg (xo + y1 * 64) rfl (ints .i64 xy) A hA'.out _ cX'.out Try.underlying129 rfl 64 infoB64 hxi'.out ?_)
      refine HC'.out.mono ?_; rintro e w6 ⟨hres, hb6⟩; have hbw6 := hbwr'.out.trans (hb6.mono hbwr'.out.size); clear hb6
      rcases hres with ⟨hno, rfl⟩ | ⟨l, a6, n6, c6, hyes, rfl, hn6, ho6⟩
      · have hno' := Lib.hid hno
        have hbw6' := Lib.hid hbw6; clear hno hbw6
        go_wp2
        go_ret2
        exact Cd11.no hno'.out rfl hbw6'.out
      · have ho7 := own_mono ho6 hbwr'.out.size
        clear ho6; have hyes' := Lib.hid hyes; have hbw6' := Lib.hid hbw6; have ho7' := Lib.hid ho7; have hn6' := Lib.hid hn6; clear hyes hbw6 ho7 hn6
        go_wp2
        go_ret2
        exact Cd11.yes hyes'.out rfl hn6'.out ho7'.out hbw6'.out
end Go.Proofs.Ytpjopeojeglogaa

namespace Go.Proofs.Ytpjopeojeglogaa
open Go.RowKit Tt
set_option linter.unusedVariables false
set_option linter.unusedSimpArgs false

section
variable {T : Type} {put : T → Nat → Cod → Except Int T} {again : T → Nat → T} {s : ScT} {bs : List (List (List Int))} {t0 : T}
def begT (again : T → Nat → T) (s : ScT) (st : T × List Int) (n : Nat) : T × List Int := if resS s.iv n then (again st.1 n, List.replicate s.ps.length 0) else st
def foldT (put : T → Nat → Cod → Except Int T) (again : T → Nat → T) (s : ScT) (bs : List (List (List Int))) (t0 : T) (n : Nat) : Except Int (T × List Int) := (List.range n).foldlM (stepU put again s bs) (t0, List.replicate s.ps.length 0)
/-- so far before the block k; its unit has been begun -/
def TlIn (put : T → Nat → Cod → Except Int T) (again : T → Nat → T) (s : ScT) (bs : List (List (List Int))) (t0 : T) (U k : Nat) (st : T × List Int) : Prop :=
  ∃ n j st0, j < U ∧ k = n * U + j ∧ foldT put again s bs t0 n = .ok st0 ∧ ((unitS s.ax.toNat s.ps n).take j).foldlM (stepB put bs) (begT again s st0 n) = .ok st
def TlAt (put : T → Nat → Cod → Except Int T) (again : T → Nat → T) (s : ScT) (bs : List (List (List Int))) (t0 : T) (U k : Nat) (st : T × List Int) : Prop :=
  (k = 0 ∧ st = (t0, List.replicate s.ps.length 0)) ∨ ∃ n j st0, j < U ∧ k = n * U + j + 1 ∧ foldT put again s bs t0 n = .ok st0 ∧ ((unitS s.ax.toNat s.ps n).take (j + 1)).foldlM (stepB put bs) (begT again s st0 n) = .ok st
theorem foldT_succ {n : Nat} {st : T × List Int} (h : foldT put again s bs t0 n = .ok st) : foldT put again s bs t0 (n + 1) = stepU put again s bs st n := by
  unfold foldT at h ⊢; rw [List.range_succ, List.foldlM_append, h]
  show ([n].foldlM (stepU put again s bs) st) = _
  rw [List.foldlM_cons]
  show (stepU put again s bs st n).bind _ = _
  cases stepU put again s bs st n <;> rfl
theorem TlAt.new {U k : Nat} {st : T × List Int} (h : TlAt put again s bs t0 U k st) (hU : unitN s.ps = U) (hU0 : 0 < U) (hk : k % U = 0) : foldT put again s bs t0 (k / U) = .ok st := by
  rcases h with ⟨rfl, rfl⟩ | ⟨n, j, st0, hj, hk2, h1, h2⟩
  · rw [Nat.zero_div]; rfl
  · have hj1 : j + 1 = U := by
      rcases Nat.lt_or_ge (j + 1) U with h | h
      · rw [hk2, Nat.add_assoc, (quo_add h).2] at hk; omega
      · omega
    have e : k / U = n + 1 := by
      rw [hk2, Nat.add_assoc, hj1, show n * U + U = (n + 1) * U by rw [Nat.succ_mul], Nat.mul_div_cancel _ (by omega)]
    rw [e, foldT_succ h1]; rw [List.take_of_length_le (by rw [unitS_many, hU]; omega)] at h2; exact h2
theorem TlAt.begin {U k : Nat} {st : T × List Int} (h : TlAt put again s bs t0 U k st) (hU : unitN s.ps = U) (hU0 : 0 < U) (hk : k % U = 0) : TlIn put again s bs t0 U k (begT again s st (k / U)) :=
  ⟨k / U, 0, st, hU0, by have := Nat.div_add_mod k U; rw [Nat.mul_comm]; omega, h.new hU hU0 hk, rfl⟩
theorem TlAt.mid {U k : Nat} {st : T × List Int} (h : TlAt put again s bs t0 U k st) (hk : k % U ≠ 0) : TlIn put again s bs t0 U k st := by
  rcases h with ⟨rfl, rfl⟩ | ⟨n, j, st0, hj, hk2, h1, h2⟩
  · simp at hk
  · have hj1 : j + 1 < U := by
      rcases Nat.lt_or_ge (j + 1) U with h | h
      · exact h
      · obtain rfl : U = j + 1 := by omega
        rw [hk2, show n * (j + 1) + j + 1 = (n + 1) * (j + 1) by rw [Nat.succ_mul]; omega, Nat.mul_mod_left] at hk; exact absurd rfl hk
    exact ⟨n, j + 1, st0, hj1, by omega, h1, h2⟩
theorem TlAt.stay {U k n r : Nat} {st : T × List Int} (h : TlAt put again s bs t0 U k st) (hU : unitN s.ps = U) (hU0 : 0 < U) (hn : k / U = n) (hr : k % U = r) (hT : (decide (r = 0) && resS s.iv n) = false) : TlIn put again s bs t0 U k st := by
  by_cases hr0 : r = 0
  · have h1 := h.begin hU hU0 (by omega)
    rw [hn] at h1; unfold begT at h1; rw [if_neg (by rw [hr0] at hT; simpa using hT)] at h1; exact h1
  · exact h.mid (by omega)
theorem TlAt.turn {U k n r : Nat} {st : T × List Int} (h : TlAt put again s bs t0 U k st) (hU : unitN s.ps = U) (hU0 : 0 < U) (hn : k / U = n) (hr : k % U = r) (hT : (decide (r = 0) && resS s.iv n) = true) : TlIn put again s bs t0 U k (again st.1 n, List.replicate s.ps.length 0) := by
  rw [Bool.and_eq_true, decide_eq_true_eq] at hT; have h1 := h.begin hU hU0 (by omega); rw [hn] at h1; unfold begT at h1; rw [if_pos hT.2] at h1; exact h1
theorem TlIn.ok {U k : Nat} {st st2 : T × List Int} (h : TlIn put again s bs t0 U k st) {x : Nat × Nat} (hx : (unitS s.ax.toNat s.ps (k / U))[k % U]? = some x) (he : stepB put bs st x = .ok st2) : TlAt put again s bs t0 U (k + 1) st2 := by
  obtain ⟨n, j, st0, hj, rfl, h1, h2⟩ := h; rw [(quo_add hj).1, (quo_add hj).2] at hx; refine .inr ⟨n, j, st0, hj, rfl, h1, ?_⟩; rw [ex_snoc hx, h2]; exact he
theorem TlIn.err {U k N : Nat} {st : T × List Int} (h : TlIn put again s bs t0 U k st) (hN : (s.ax * s.dn).toNat = N) (hk : k < N * U) {x : Nat × Nat} (hx : (unitS s.ax.toNat s.ps (k / U))[k % U]? = some x) {e : Int} (he : stepB put bs st x = .error e) : tellS put again s bs t0 = .error e := by
  obtain ⟨n, j, st0, hj, rfl, h1, h2⟩ := h; rw [(quo_add hj).1, (quo_add hj).2] at hx
  have hn : n < N := by
    rcases Nat.lt_or_ge n N with h | h
    · exact h
    · have := Nat.mul_le_mul_right U h; omega
  have h3 : stepU put again s bs st0 n = .error e := by
    unfold stepU; refine ex_err (j := j + 1) ?_; rw [ex_snoc hx]
    show (((unitS s.ax.toNat s.ps n).take j).foldlM (stepB put bs) (begT again s st0 n)).bind _ = _
    rw [h2]; exact he
  unfold tellS; rw [hN]; refine ex_err (j := n + 1) ?_; rw [List.take_range, Nat.min_eq_left (by omega)]
  show foldT put again s bs t0 (n + 1) = _
  rw [foldT_succ h1, h3]
theorem TlAt.fin {U N : Nat} {st : T × List Int} (h : TlAt put again s bs t0 U (N * U) st) (hN : (s.ax * s.dn).toNat = N) (hU : unitN s.ps = U) (hU0 : 0 < U) : tellS put again s bs t0 = .ok st := by
  have := h.new hU hU0 (Nat.mul_mod_left _ _); rw [Nat.mul_div_cancel _ hU0] at this; unfold tellS; rw [hN]; exact this
end
theorem first_same {iv : Int} {U k n r : Nat} (h0 : 0 < k) (hn : k / U = n) (hr : k % U = r) (hT : (decide (r = 0) && resS iv n) = false) (hU0 : 0 < U) : k / U / iv.toNat = (k - 1) / U / iv.toNat ∨ ¬ 0 < iv := by
  by_cases hiv : 0 < iv
  · left
    obtain ⟨m, rfl⟩ : ∃ m, k = m + 1 := ⟨k - 1, by omega⟩; rw [Nat.add_sub_cancel]; obtain ⟨i, hi⟩ : ∃ i, iv.toNat = i := ⟨_, rfl⟩; rw [hi]; have e1 := @Nat.succ_div m U; have e1 : (m + 1) / U = m / U + if U ∣ m + 1 then 1 else 0 := Nat.succ_div
    by_cases hd : U ∣ m + 1
    · rw [if_pos hd] at e1
      have hr0 : r = 0 := by rw [← hr]; exact Nat.mod_eq_zero_of_dvd hd
      rw [hr0] at hT; have hres : resS iv n = false := by simpa using hT
      have e2 : (m / U + 1) / i = m / U / i + if i ∣ m / U + 1 then 1 else 0 := Nat.succ_div; rw [e1, e2, if_neg]
      · rfl
      · intro hdv
        have : resS iv n = true := by
          unfold resS; rw [decide_eq_true_eq]; exact ⟨hiv, by rw [← hn, e1]; exact Nat.succ_pos _, by rw [hi, ← hn, e1]; exact Nat.mod_eq_zero_of_dvd hdv⟩
        rw [this] at hres; cases hres
    · rw [if_neg hd] at e1
      rw [e1]
      rfl
  · exact .inr hiv
theorem firstD_same {iv : Int} {U k n r : Nat} (h0 : 0 < k) (hn : k / U = n) (hr : k % U = r) (hT : (decide (r = 0) && resS iv n) = false) (hU0 : 0 < U) : firstD iv U k = firstD iv U (k - 1) := by
  unfold firstD
  rcases first_same h0 hn hr hT hU0 with h | h
  · rw [h]
  · rw [if_neg h, if_neg h]
theorem firstD_reset {iv : Int} {U k n r : Nat} (hn : k / U = n) (hr : k % U = r) (hT : (decide (r = 0) && resS iv n) = true) : firstD iv U k = k := by
  rw [Bool.and_eq_true, decide_eq_true_eq] at hT; obtain ⟨hr0, hres⟩ := hT; unfold resS at hres; rw [decide_eq_true_eq] at hres; unfold firstD; rw [if_pos hres.1, hn, Nat.div_mul_cancel (Nat.dvd_of_mod_eq_zero hres.2.2), ← hn]; exact Nat.div_mul_cancel (Nat.dvd_of_mod_eq_zero (by omega))
/-- how many restarts there were before a block -/
def cntD (iv : Int) (U k : Nat) : Nat := if 0 < iv ∧ 0 < k then (k - 1) / U / iv.toNat else 0
theorem cntD_stay {iv : Int} {U k n r : Nat} (hn : k / U = n) (hr : k % U = r) (hT : (decide (r = 0) && resS iv n) = false) (hU0 : 0 < U) : cntD iv U (k + 1) = cntD iv U k := by
  unfold cntD; rw [Nat.add_sub_cancel]
  by_cases h0 : 0 < k
  · rcases first_same h0 hn hr hT hU0 with h | h
    · by_cases hiv : 0 < iv
      · rw [if_pos ⟨hiv, by omega⟩, if_pos ⟨hiv, h0⟩, h]
      · rw [if_neg (fun h => hiv h.1), if_neg (fun h => hiv h.1)]
    · rw [if_neg (fun h2 => h h2.1), if_neg (fun h2 => h h2.1)]
  · obtain rfl : k = 0 := by omega
    rw [Nat.zero_div, Nat.zero_div]
    simp
theorem cntD_turn {iv : Int} {U k n r : Nat} (hn : k / U = n) (hr : k % U = r) (hT : (decide (r = 0) && resS iv n) = true) (hU0 : 0 < U) : cntD iv U (k + 1) = cntD iv U k + 1 ∧ rstS iv n = 208 + ((cntD iv U k % 8 : Nat) : Int) := by
  rw [Bool.and_eq_true, decide_eq_true_eq] at hT; obtain ⟨hr0, hres⟩ := hT; unfold resS at hres; rw [decide_eq_true_eq] at hres; obtain ⟨hiv, hn0, hd⟩ := hres
  have hk : 0 < k := by
    rcases Nat.eq_zero_or_pos k with rfl | h
    · rw [Nat.zero_div] at hn; omega
    · exact h
  obtain ⟨i, hi⟩ : ∃ i, iv.toNat = i := ⟨_, rfl⟩; have hi0 : 0 < i := by omega
  obtain ⟨m, rfl⟩ : ∃ m, k = m + 1 := ⟨k - 1, by omega⟩; have e1 : (m + 1) / U = m / U + if U ∣ m + 1 then 1 else 0 := Nat.succ_div; rw [if_pos (Nat.dvd_of_mod_eq_zero (by omega)), hn] at e1; have e2 : (m / U + 1) / i = m / U / i + if i ∣ m / U + 1 then 1 else 0 := Nat.succ_div; rw [← e1, if_pos (Nat.dvd_of_mod_eq_zero (by rw [← hi]; exact hd))] at e2; have c1 : cntD iv U (m + 1) = m / U / i := by unfold cntD; rw [if_pos ⟨hiv, hk⟩, Nat.add_sub_cancel, hi]
  have c2 : cntD iv U (m + 1 + 1) = n / i := by unfold cntD; rw [if_pos ⟨hiv, by omega⟩, Nat.add_sub_cancel, hi, hn]
  refine ⟨by rw [c1, c2, e2], ?_⟩; unfold rstS; rw [c1, hi, e2, Nat.add_sub_cancel]
  omega
/-- what a plane's last block began with, as the document counts it -/
def LaIn (s : ScT) (bs : List (List (List Int))) (UU : List (Nat × Nat)) (U k : Nat) (la : List Int) : Prop := la.length = s.ps.length ∧ ∀ part, part < s.ps.length → la.getD part 0 = lastD bs part ((UU.take k).drop (firstD s.iv U k))
def LaAt (s : ScT) (bs : List (List (List Int))) (UU : List (Nat × Nat)) (U k : Nat) (la : List Int) : Prop := la.length = s.ps.length ∧ ∀ part, part < s.ps.length → la.getD part 0 = lastD bs part ((UU.take k).drop (firstD s.iv U (k - 1)))
section
variable {s : ScT} {bs : List (List (List Int))} {UU : List (Nat × Nat)} {U k n r : Nat} {la : List Int}
theorem getD_zeros (m i : Nat) : (List.replicate m (0 : Int)).getD i 0 = 0 := by
  rw [List.getD_eq_getElem?_getD, List.getElem?_replicate]
  split <;> rfl
theorem LaAt.zero : LaAt s bs UU U 0 (List.replicate s.ps.length 0) := ⟨List.length_replicate, fun part _ => by rw [getD_zeros, List.take_zero, List.drop_nil]; rfl⟩
theorem LaAt.stay (h : LaAt s bs UU U k la) (hn : k / U = n) (hr : k % U = r) (hT : (decide (r = 0) && resS s.iv n) = false) (hU0 : 0 < U) : LaIn s bs UU U k la := by
  refine ⟨h.1, fun part hp => ?_⟩
  rcases Nat.eq_zero_or_pos k with rfl | hk
  · exact h.2 part hp
  · rw [firstD_same hk hn hr hT hU0]
    exact h.2 part hp
theorem LaIn.reset (hn : k / U = n) (hr : k % U = r) (hT : (decide (r = 0) && resS s.iv n) = true) : LaIn s bs UU U k (List.replicate s.ps.length 0) :=
  ⟨List.length_replicate, fun part hp => by rw [firstD_reset hn hr hT, List.drop_of_length_le (by rw [List.length_take]; omega), getD_zeros]; rfl⟩
theorem LaIn.next (h : LaIn s bs UU U k la) {y : Nat × Nat} (hy : UU[k]? = some y) : LaAt s bs UU U (k + 1) (la.set y.1 ((blkB bs y).getD 0 0)) := by
  refine ⟨by rw [List.length_set]; exact h.1, fun part hp => ?_⟩; rw [Nat.add_sub_cancel, take_drop_snoc (firstD_le _ _ _) hy, lastD_snoc]
  by_cases hyp : y.1 = part
  · rw [if_pos hyp, hyp, List.getD_eq_getElem?_getD, List.getElem?_set_self (by rw [h.1]; exact hp)]
    rfl
  · rw [if_neg hyp, List.getD_eq_getElem?_getD, List.getElem?_set_ne hyp, ← List.getD_eq_getElem?_getD]
    exact h.2 part hp
theorem LaIn.code (h : LaIn s bs UU U k la) (hU : unitN s.ps = U) {y : Nat × Nat} {p : PtM} (hy : UU[k]? = some y) (hp : s.ps[y.1]? = some p) : symsD s bs UU k = codeB (blkB bs y) (la.getD y.1 0) := by
  unfold symsD; have hyd : UU.getD k (0, 0) = y := by rw [List.getD_eq_getElem?_getD, hy]; rfl
  rw [hyd, hU, h.2 y.1 (List.getElem?_eq_some_iff.1 hp).1]
end
theorem unit_pos {ps : List PtM} (h : ∀ (k : Nat) p, ps[k]? = some p → mayPt p = true) (h1 : 1 ≤ ps.length) : 0 < unitN ps := by
  cases ps with
  | nil => simp at h1
  | cons p l =>
    have hm := mayPt_bd (h 0 p rfl); have h2 : 0 < p.1.toNat * p.2.1.toNat := Nat.mul_pos (by omega) (by omega); unfold unitN; rw [List.map_cons, List.sum_cons]
    omega
theorem unitN_sum {ps : List PtM} (h : ∀ (k : Nat) p, ps[k]? = some p → mayPt p = true) : (unitN ps : Int) = sumPt ps := by
  induction ps with
  | nil => rfl
  | cons p l ih =>
    have hm := mayPt_bd (h 0 p rfl); have h2 := ih fun k q hq => h (k + 1) q hq; unfold unitN sumPt at h2 ⊢; rw [List.map_cons, List.sum_cons, List.map_cons, List.sum_cons, Int.natCast_add, h2, Int.natCast_mul, Int.toNat_of_nonneg (by omega), Int.toNat_of_nonneg (by omega)]
end Go.Proofs.Ytpjopeojeglogaa
