/- Chapter 12, the document's side: Write. -/
import Derived.Test.YtpjopeojeglogaaCw40
import Derived.Test.YtpjopeojeglogaaCw36
import Derived.Test.YtpjopeojeglogaaCw30
namespace Go.Proofs.Ytpjopeojeglogaa
open Go.RowKit Tt
set_option linter.unusedVariables false
set_option linter.unusedSimpArgs false

set_option maxRecDepth 100000 in
set_option maxHeartbeats 8000000 in
theorem rwrite12_any (s : ScT) (bs : List BpM) (pa ba : Option Addr) (pn pc bn bc : Nat) (w : World) (hs : PtsR w pa pn pc s.ps) (hb : BpsR w ba bn bc bs) (hmay : mayS s = true) (hwh : wholeS s (bs.map (·.1)) = true) (hfew : (s.ax * s.dn).toNat ≤ 26) :
    Calls Try.prog 28 #[.agg #[.int .i64 s.ax, .int .i64 s.dn, .slice pa pn pc, .int .i64 s.iv], .slice ba bn bc] w (WrP s (bs.map (·.1)) w) := by
  obtain ⟨i8, hi8, hz80, hz81, hz82⟩ := info_parts info8; obtain ⟨i1, hi, hz0, hz1, hz2⟩ := info_parts infoI; have hl := hs.ilen; have hbl := hb.ilen; obtain ⟨htop, hpts, hsum⟩ := mayS_parts hmay; have hpn4 : pn ≤ 4 := by omega
  have hU12 := fun W (h : Below w.heap.size w W) => runit12_any s pa pn pc W (hs.mono h) hpts hpn4; have hO12 := fun W (h : Below w.heap.size w W) => rorder12_any s pa pn pc W (hs.mono h) hmay; obtain ⟨a, ha⟩ : ∃ a : Nat, s.ax = a := ⟨s.ax.toNat, by omega⟩; obtain ⟨d, hd⟩ : ∃ d : Nat, s.dn = d := ⟨s.dn.toNat, by omega⟩; obtain ⟨I, hI⟩ : ∃ I : Nat, s.iv = I := ⟨s.iv.toNat, by omega⟩; have ha512 : 1 ≤ a ∧ a ≤ 512 := by omega
  have hd512 : 1 ≤ d ∧ d ≤ 512 := by omega
  obtain ⟨N, hN⟩ : ∃ N, a * d = N := ⟨_, rfl⟩; have hNs : (s.ax * s.dn).toNat = N := by rw [ha, hd, ← Int.natCast_mul, hN]; rfl
  have hN2 : N ≤ 262144 := by rw [← hN]; exact Nat.le_trans (Nat.mul_le_mul ha512.2 hd512.2) (by omega)
  obtain ⟨U, hU⟩ : ∃ U, unitN s.ps = U := ⟨_, rfl⟩; have hul := unitS_len (a := a) hpts (by rw [hl]; exact hpn4) 0; rw [unitS_many, hU] at hul; have hU0 : 0 < U := by rw [← hU]; exact unit_pos hpts (by omega)
  obtain ⟨UU, hUU⟩ : ∃ UU, unitsS a s.ps N = UU := ⟨_, rfl⟩
  have hsumU : U ≤ 10 := by
    have h1 := unitN_sum hpts; rw [hU] at h1
    omega
  have hpl := fun j (hj : j < N * U) => place_whole hwh ha hd hN hU ha512.1 hpts hj; have hUl : UU.length = N * U := by rw [← hUU, unitsS_len, hU]
  obtain ⟨NU, hNU⟩ : ∃ q, N * U = q := ⟨_, rfl⟩; have hN26 : N ≤ 26 := by omega
  have hNU2 : NU ≤ 260 := by rw [← hNU]; exact Nat.le_trans (Nat.mul_le_mul hN26 hsumU) (by decide)
  have hord : orderS s = placesI UU := by unfold orderS; rw [ha, Int.toNat_natCast, ← ha, hNs, hUU]
  have hpl2 := fun j (hj : j < N * U) => (show (unitS s.ax.toNat s.ps (j / U))[j % U]? = UU[j]? by rw [ha, Int.toNat_natCast, ← unitsS_get hU N hj, hUU]); rw [hNU] at hUl; rw [hUU] at hpl; have hR12 := fun n W hn => rrest12_any (a : Int) (d : Int) s.iv pa pn pc n W (by omega) (by omega) hn; have hSy := fun k W (hk : k < N * U) (h : Below w.heap.size w W) => rsymbols_any s bs pa ba pn pc bn bc k W (hs.mono h) (hb.mono h) hmay hwh (by rw [hNs, hU]; exact hk); have hSe : unitsS s.ax.toNat s.ps (s.ax * s.dn).toNat = UU := by rw [hNs, ha, Int.toNat_natCast, hUU]
  rw [hSe, ha, hd] at hSy; have hwe := fun er => @writeS_err s (bs.map (·.1)) er hwh; have hwo := fun t l => @writeS_ok s (bs.map (·.1)) t l hwh; rw [hU, ha, hd] at hU12; rw [ha, hd] at hO12 ⊢; have b1 := Blk.new w 24 #[.int .i64 (a : Int), .int .i64 (d : Int), .slice pa pn pc, .int .i64 s.iv]; have hb1 := (Below.refl w.heap.size w).alloc (Nat.le_refl _) (.cells #[.int .i64 (a : Int), .int .i64 (d : Int), .slice pa pn pc, .int .i64 s.iv] 24); obtain ⟨W1, hW1⟩ : ∃ W1, w.alloc (.cells #[.int .i64 (a : Int), .int .i64 (d : Int), .slice pa pn pc, .int .i64 s.iv] 24) = W1 := ⟨_, rfl⟩; rw [hW1] at b1 hb1; have hcs : ∀ W, Blk W w.heap.size 24 #[.int .i64 (a : Int), .int .i64 (d : Int), .slice pa pn pc, .int .i64 s.iv] → W.cell? ⟨w.heap.size, 0, none⟩ = some (.int .i64 (a : Int)) ∧ W.cell? ⟨w.heap.size, 1, none⟩ = some (.int .i64 (d : Int)) ∧ W.cell? ⟨w.heap.size, 2, none⟩ = some (.slice pa pn pc) ∧ W.cell? ⟨w.heap.size, 3, none⟩ = some (.int .i64 s.iv) := fun W b => ⟨b.cell rfl, b.cell rfl, b.cell rfl, b.cell rfl⟩; obtain ⟨k0, k1, k2, k3⟩ := hcs W1 b1; clear hul hsum hI ha512 hd512 hsumU; have hs' := Lib.hid hs; have hb' := Lib.hid hb; have hl' := Lib.hid hl; have hbl' := Lib.hid hbl; have hmay' := Lib.hid hmay; have hwh' := Lib.hid hwh; have htop' := Lib.hid htop; have hpts' := Lib.hid hpts; have hU12' := Lib.hid hU12; have hO12' := Lib.hid hO12; have ha' := Lib.hid ha; have hd' := Lib.hid hd; have hN' := Lib.hid hN; have hNs' := Lib.hid hNs; have hU' := Lib.hid hU; have hUU' := Lib.hid hUU; have hpl' := Lib.hid hpl; have hpl2' := Lib.hid hpl2; have hUl' := Lib.hid hUl; have hNU' := Lib.hid hNU; have hord' := Lib.hid hord; have b1' := Lib.hid b1; have hb1' := Lib.hid hb1; have hW1' := Lib.hid hW1; have hcs' := Lib.hid hcs; have hR12' := Lib.hid hR12; have hSy' := Lib.hid hSy; have hSe' := Lib.hid hSe; have hwe' := Lib.hid hwe; have hwo' := Lib.hid hwo; have hU0' := Lib.hid hU0; clear hs hb hl hbl hmay hwh htop hpts hU12 hO12 ha hd hN hNs hU hUU hpl hpl2 hUl hNU hord b1 hb1 hW1 hcs hR12 hSy hSe hwe hwo hU0
  go_enter Try.func28, Try.ntmps28
  go_upto_region 3 with fail
  rw [hW1'.out]
  go_wp2_with fail
  refine (hU12'.out W1 hb1'.out).mono ?_; rintro e w2 ⟨rfl, hb2⟩; have hbw2 := hb1'.out.trans (hb2.mono hb1'.out.size); have b2 := b1'.out.late hb2; clear hb2 k0 k1 k2 k3; obtain ⟨k0, k1, k2, k3⟩ := hcs'.out w2 b2; have hbw2' := Lib.hid hbw2; have b2' := Lib.hid b2; clear hbw2 b2
  go_wp2_with fail
  refine (hO12'.out w2 hbw2'.out).mono ?_; rintro e w5 ⟨oa, on, oc, rfl, ho5, hb5⟩; have hbw5 := hbw2'.out.trans (hb5.mono hbw2'.out.size); have b5 := b2'.out.late hb5; have so5 := (Sl.of_own ho5).1; rw [hord'.out] at so5
  have hon : on = 2 * NU := by
    have h1 := so5.ilen; rw [placesI_len, hUl'.out] at h1
    omega
  subst hon; clear hb5 ho5 k0 k1 k2 k3; have hbw5' := Lib.hid hbw5; have b5' := Lib.hid b5; have so5' := Lib.hid so5; clear hbw5 b5 so5
  go_wp2
  go_loopw [6, 7, 10, 11, 12, 13, 14, 15, 16] (fun ov rv cv kv _ _ _ _ _ wr => ∃ (kk : Nat) (ea : Option Addr) (en ec : Nat) (ra : Option Addr) (rn rc rr : Nat) (t : WrT) (la : List Int), kk ≤ NU ∧ rr ≤ kk ∧ en + rn ≤ kk * 2244 ∧ kv = .int .i64 kk ∧ ov = .slice ea en ec ∧ rv = .slice ra rn rc ∧ cv = .int .i64 rr ∧ Hid (rr = cntD s.iv U kk) ∧ Hid (TlAt (putW s.ps) (againW s.iv) s (bs.map (·.1)) ([], []) U kk (t, la)) ∧ Hid (LaAt s (bs.map (·.1)) UU U kk la) ∧ Hid (WrM w5 wr ea en ec ra rn rc t)) (fun _ _ _ kv _ _ _ _ _ _ => NU - (intOf kv).toNat)
  case atStart => exact ⟨0, none, 0, 0, none, 0, 0, 0, ([], []), _, by omega, by omega, by omega, rfl, rfl, rfl, rfl, Lib.hid (by unfold cntD; rw [if_neg (fun h => by omega)]), Lib.hid (.inl ⟨rfl, rfl⟩), Lib.hid LaAt.zero, Lib.hid ⟨own_nil _ _ _ _, own_nil _ _ _ _, Below.refl _ _, fun x hx => by cases hx⟩⟩
  case round =>
    rename World => wr
    obtain ⟨kk, ea, en, ec, ra, rn, rc, rr, t, la, hkk, hrk, hsz, rfl, rfl, rfl, rfl, hrr, hat, hla, hM⟩ := hrel
    by_cases hlt : kk < NU
    · obtain ⟨n, hn⟩ : ∃ n, kk / U = n := ⟨_, rfl⟩
      obtain ⟨r, hr⟩ : ∃ r, kk % U = r := ⟨_, rfl⟩; have enq : Int.tdiv (kk : Int) (U : Int) = (n : Int) := by rw [← hn]; exact (Int.ofNat_tdiv kk U).symm
      have enr : Int.tmod (kk : Int) (U : Int) = (r : Int) := by rw [← hr]; exact (Int.ofNat_tmod kk U).symm
      have hUz : ¬ (U : Int) = 0 := by have := hU0'.out; omega
      have hnk : n ≤ kk := by rw [← hn]; exact Nat.div_le_self _ _
      have hrk2 : r ≤ kk := by rw [← hr]; exact Nat.mod_le _ _
      have hn26 : n ≤ 262144 := by omega
      have HR := fun W => hR12'.out n W hn26; obtain ⟨T, hT⟩ : ∃ T : Bool, (decide (r = 0) && resS s.iv n) = T := ⟨_, rfl⟩; obtain ⟨RT, hRT⟩ : ∃ T : Bool, resS s.iv n = T := ⟨_, rfl⟩; simp only [hRT] at HR; have hn' := Lib.hid hn; have hr' := Lib.hid hr; have hT' := Lib.hid hT; have HR' := Lib.hid HR; have hRT' := Lib.hid hRT; clear hn hr hT HR hRT
      go_upto_region 9 with fail
      go_cut [38] from 21 to 120 (fun v wx => v = .bool T ∧ Hid (Below wr.heap.size wr wx))
      case first =>
        obtain ⟨Ty2, f2, hnn2, hb2, hsurj2⟩ := later_worlds wr; have HS := Lib.hid (hsurj2 _ ((Below.refl _ _).drew)); have y0 : ∀ u, (f2 u).cell? ⟨w.heap.size, 0, none⟩ = some (.int .i64 (a : Int)) := fun u => (hcs'.out _ ((b5'.out.late hM.out.bel).late (hb2 u))).1; have y1 : ∀ u, (f2 u).cell? ⟨w.heap.size, 1, none⟩ = some (.int .i64 (d : Int)) := fun u => (hcs'.out _ ((b5'.out.late hM.out.bel).late (hb2 u))).2.1; have y2 : ∀ u, (f2 u).cell? ⟨w.heap.size, 2, none⟩ = some (.slice pa pn pc) := fun u => (hcs'.out _ ((b5'.out.late hM.out.bel).late (hb2 u))).2.2.1; have y3 : ∀ u, (f2 u).cell? ⟨w.heap.size, 3, none⟩ = some (.int .i64 s.iv) := fun u => (hcs'.out _ ((b5'.out.late hM.out.bel).late (hb2 u))).2.2.2
        by_cases hr0 : r = 0
        · have hTR : RT = T := by rw [← hT'.out, ← hRT'.out, hr0]; rfl
          have hr1 : ((r : Int) == 0) = true := by rw [hr0]; rfl
          clear hr0; have hTR' := Lib.hid hTR; have hb2' := Lib.hid hb2; have hsurj2' := Lib.hid hsurj2; clear hTR hb2 hsurj2; refine wp_quiet_in f2 (by kernel_rfl) (by kernel_rfl) HS.out ?_
          iterate 11 (go_big_quiet_step (first
            | (go_at_call 97; refine (HR'.out _).mono ?_; rintro e w3 ⟨rfl, hb3⟩; exact ⟨rfl, hsurj2'.out _ ((hb2'.out _).trans (hb3.mono (hb2'.out _).size))⟩)
            | rfl))
          refine wpQuiet_nil ?_; intro u
          go_wp2
          go_meet
          case rel => exact ⟨by rw [hTR'.out], Lib.hid (hb2'.out u)⟩
        · have hTR : T = false := by rw [← hT'.out, decide_eq_false hr0]; rfl
          have hr1 : ((r : Int) == 0) = false := by simp; omega
          clear hr0; have hTR' := Lib.hid hTR; have hb2' := Lib.hid hb2; have hsurj2' := Lib.hid hsurj2; clear hTR hb2 hsurj2; refine wp_quiet_in f2 (by kernel_rfl) (by kernel_rfl) HS.out ?_
          iterate 11 (go_big_quiet_step (rfl))
          refine wpQuiet_nil ?_; intro u
          go_wp2
          go_meet
          case rel => exact ⟨by rw [hTR'.out], Lib.hid (hb2'.out u)⟩
      case rest =>
        obtain ⟨rfl, hbx⟩ := hcut
        rename World => wq
        have hMq := hM.out.late hbx.out; clear enq enr hUz hbx hM; have hMq' := Lib.hid hMq; clear hMq
        go_upto_if 38 with fail
        go_cut [6, 7, 10] from 21 to 120 (fun ov rv cv wx => ∃ (ea : Option Addr) (en ec : Nat) (ra : Option Addr) (rn rc rr : Nat) (t : WrT) (la : List Int), rr ≤ kk + 1 ∧ en + rn ≤ kk * 2244 + 4 ∧ ov = .slice ea en ec ∧ rv = .slice ra rn rc ∧ cv = .int .i64 rr ∧ Hid (rr = cntD s.iv U (kk + 1)) ∧ Hid (TlIn (putW s.ps) (againW s.iv) s (bs.map (·.1)) ([], []) U kk (t, la)) ∧ Hid (LaIn s (bs.map (·.1)) UU U kk la) ∧ Hid (WrM w5 wx ea en ec ra rn rc t))
        case first =>
          cases T with
          | false =>
            have hin := hat.out.stay hU'.out hU0'.out hn'.out hr'.out hT'.out; have hlin := hla.out.stay hn'.out hr'.out hT'.out hU0'.out; have hcn := cntD_stay hn'.out hr'.out hT'.out hU0'.out; have hin' := Lib.hid hin; have hlin' := Lib.hid hlin; have hcn' := Lib.hid hcn; clear hin hlin hcn
            go_wp2
            go_meet
            case rel => exact ⟨ea, en, ec, ra, rn, rc, rr, t, la, by omega, by omega, rfl, rfl, rfl, Lib.hid (by rw [hcn'.out]; exact hrr.out), hin', hlin', hMq'⟩
          | true =>
            have hin := hat.out.turn hU'.out hU0'.out hn'.out hr'.out hT'.out; have hlin := LaIn.reset (bs := bs.map (·.1)) (UU := UU) hn'.out hr'.out hT'.out; obtain ⟨hcn, hrst⟩ := cntD_turn hn'.out hr'.out hT'.out hU0'.out; rw [← hrr.out] at hcn hrst; obtain ⟨r8, hr8⟩ : ∃ r8, rr % 8 = r8 := ⟨_, rfl⟩; rw [hr8] at hrst; have e8 : Int.tmod (rr : Int) 8 = (r8 : Int) := by rw [← hr8]; exact (Int.ofNat_tmod rr 8).symm
            have hr87 : r8 ≤ 7 := by omega
            have hcv : IntKind.u8.wrap (208 + (r8 : Int)) = 208 + r8 := by rw [IntKind.wrap_u8]; omega
            have HB := rbytes_any ra rn rc t.2 wq (Sl.of_own hMq'.out.row).1 (by omega) hMq'.out.bit; have hrl := hMq'.out.rowl; clear hr8; have hin' := Lib.hid hin; have hlin' := Lib.hid hlin; have hcn' := Lib.hid hcn; have hrst' := Lib.hid hrst; have HB' := Lib.hid HB; have hrl' := Lib.hid hrl; clear hin hlin hcn hrst HB hrl
            go_wp2_with fail
            refine HB'.out.mono ?_; rintro e w6 ⟨a2, m, c2, rfl, ho2, hb6⟩; have hM6 := hMq'.out.late hb6; have s2 := (Sl.of_own ho2).1; have hml := s2.ilen; have hml2 : m ≤ rn + 2 := by rw [← hml, ← hrl'.out]; exact bytesS_le _
            have hs6 := hM6.bel.size; clear ho2 hb6 hml; have hM6' := Lib.hid hM6; have s2' := Lib.hid s2; clear hM6 s2
            go_wp2_with (first
              | (at_builtin; refine wpList_app rfl _ _ 30 rfl w5.heap.size 5 i8 _ 1 1 Try.underlying30 hi8 hz80 hz81 hz82 rfl (by decide) _ en _ rfl hM6'.out.out a2 m c2 _ rfl s2'.out ints_one (by omega) (by decide) hs6 ?_; intro a7 c7 w7 ho7 hb7 hg7; have Ho7 := Lib.hid ho7; have Hb7 := Lib.hid (hM6'.out.bel.trans hb7); clear ho7 hb7 hg7)
              | (at_builtin; refine wpList_app rfl _ _ 30 rfl w5.heap.size 5 i8 _ 1 1 Try.underlying30 hi8 hz80 hz81 hz82 rfl (by decide) _ (en + m) _ rfl (own_later Ho7.out ((Below.refl _ _).alloc (Nat.le_refl _) _)) (some ⟨w7.heap.size, 0, none⟩) 2 2 [.int .u8 255, .int .u8 (208 + (r8 : Int))] rfl (Sl.new w7 5 1 2 #[.int .u8 255, .int .u8 (208 + (r8 : Int))] (0, 0) (by decide) rfl) (by simp [Value.oneCell']) (by omega) (by decide) (by have := Hb7.out.size; simp only [World.size_alloc]; omega) ?_; intro a9 c9 w9 ho9 hb9 hg9; have Ho9 := Lib.hid ho9; have Hb9 := Lib.hid ((Hb7.out.alloc Hb7.out.size _).trans hb9); clear ho9 hb9 hg9))
            have hMn : WrM w5 w9 a9 (en + m + 2) c9 none 0 0 (againW s.iv t n) := ⟨by
              have h1 := Ho9.out; unfold againW; rw [hrst'.out]; have e : ints .u8 (t.1 ++ bytesS t.2 ++ [255, 208 + (r8 : Int)]) = ints .u8 t.1 ++ ints .u8 (bytesS t.2) ++ [.int .u8 255, .int .u8 (208 + (r8 : Int))] := by unfold ints; simp
              show w9.ownsRow _ _ _ _ _ (ints .u8 (t.1 ++ bytesS t.2 ++ [255, 208 + (r8 : Int)]))
              rw [e]; exact h1, own_nil _ _ _ _, Hb9.out, fun x hx => by cases hx⟩
            clear Ho7 Hb7 Ho9 Hb9 e8 hcv; have hMn' := Lib.hid hMn; clear hMn
            go_wp2
            go_meet
            case rel => exact ⟨a9, en + m + 2, c9, none, 0, 0, rr + 1, _, _, by omega, by omega, rfl, rfl, by go_num, Lib.hid hcn'.out.symm, hin', hlin', hMn'⟩
        case rest =>
          clear hsz hrr hat hla hMq' hrk; obtain ⟨ea, en, ec, ra, rn, rc, rr, t, la, hrk, hsz, rfl, rfl, rfl, hrr, hin, hla, hM⟩ := hcut
          rename World => wi
          obtain ⟨y, p, B, x, hy, hp, hBy, hxy, hblk⟩ := hpl'.out kk (by rw [hNU'.out]; exact hlt); have hyu := (hpl2'.out kk (by rw [hNU'.out]; exact hlt)).trans hy; have hbwi := hbw5'.out.trans (hM.out.bel.mono hbw5'.out.size); have HS := hSy'.out kk wi (by rw [hNU'.out]; exact hlt) hbwi; rw [hla.out.code hU'.out hy hp] at HS; have hstn : codeB (blkB (bs.map (·.1)) y) (la.getD y.1 0) = none → stepB (putW s.ps) (bs.map (·.1)) (t, la) y = .error 7 := fun h => stepB_none h; have hsto : ∀ l e, codeB (blkB (bs.map (·.1)) y) (la.getD y.1 0) = some l → putL (putW s.ps) y.1 t l = .error e → stepB (putW s.ps) (bs.map (·.1)) (t, la) y = .error e := fun l e h1 h2 => stepB_err h1 h2; have hstk : ∀ l t2, codeB (blkB (bs.map (·.1)) y) (la.getD y.1 0) = some l → putL (putW s.ps) y.1 t l = .ok t2 → stepB (putW s.ps) (bs.map (·.1)) (t, la) y = .ok (t2, la.set y.1 ((blkB (bs.map (·.1)) y).getD 0 0)) := fun l e h1 h2 => stepB_ok h1 h2; have hter := fun e (he : stepB (putW s.ps) (bs.map (·.1)) (t, la) y = .error e) => hwe'.out e (hin.out.err hNs'.out (by rw [hNU'.out]; exact hlt) hyu he); have htok := fun t2 (he : stepB (putW s.ps) (bs.map (·.1)) (t, la) y = .ok t2) => hin.out.ok hyu he; have hbi := b5'.out.late hM.out.bel; obtain ⟨C, hC⟩ : ∃ C, codeB (blkB (bs.map (·.1)) y) (la.getD y.1 0) = C := ⟨_, rfl⟩; rw [hC] at HS hstn hsto hstk; obtain ⟨k0, k1, k2, k3⟩ := hcs'.out wi hbi; have hy' := Lib.hid hy; have hp' := Lib.hid hp; have hBy' := Lib.hid hBy; have hxy' := Lib.hid hxy; have hblk' := Lib.hid hblk; have hyu' := Lib.hid hyu; have hbwi' := Lib.hid hbwi; have HS' := Lib.hid HS; have hstn' := Lib.hid hstn; have hsto' := Lib.hid hsto; have hstk' := Lib.hid hstk; have hter' := Lib.hid hter; have htok' := Lib.hid htok; have hbi' := Lib.hid hbi; have hC' := Lib.hid hC; clear hy hp hBy hxy hblk hyu hbwi HS hstn hsto hstk hter htok hbi hC
          go_upto_region 13 with fail
          go_wp2_with fail
          refine HS'.out.mono ?_; rintro e w6 ⟨hres, hb6⟩; have hM6 := hM.out.late hb6; have hbw6 := hbwi'.out.trans (hb6.mono hbwi'.out.size); clear k0 k1 k2 k3
          rcases hres with ⟨hno, rfl⟩ | ⟨l, xa, xn, xc, hyes, rfl, hxn, hxo⟩
          · have hwr := hter'.out 7 (hstn'.out hno)
            clear hb6; have hbw6' := Lib.hid hbw6; have hwr' := Lib.hid hwr; clear hbw6 hwr
            go_wp2
            go_ret2
            exact WrP.err hwr'.out rfl hbw6'.out
          · have hxo := own_mono hxo (Nat.zero_le _)
            have b6 := hbi'.out.late hb6; subst hyes; have hCe := hC'.out; have hcok := codeB_ok hCe
            obtain ⟨bm, hbm, hbm1⟩ : ∃ bm, bs[y.1]? = some bm ∧ bm.1 = B := by
              have h1 := hBy'.out; rw [List.getElem?_map] at h1
              cases h : bs[y.1]? with
              | none => rw [h] at h1; cases h1
              | some bm => rw [h] at h1; injection h1 with h1; exact ⟨bm, rfl, h1⟩
            have hx64 : x.length = 64 := (hb'.out.ok bm (List.mem_of_getElem? hbm)).len x (by rw [hbm1]; exact List.mem_of_getElem? hxy'.out); have hl70 : l.length ≤ 70 := codeB_len (by rw [hblk'.out]; exact hx64) hCe; have hpk := hs'.out.ok p (List.mem_of_getElem? hp'.out); obtain ⟨pb, o, hpa, hpbb, f⟩ := (hs'.out.mono hbw6).elem hp'.out; have hpm := hpts'.out y.1 p hp'.out
            have hm1 : mayH p.2.2.1 = true := by
              cases h : mayH p.2.2.1 with
              | true => rfl
              | false => rw [mayPt_dc h] at hpm; cases hpm
            have hm2 : mayH p.2.2.2 = true := by
              cases h : mayH p.2.2.2 with
              | true => rfl
              | false => rw [mayPt_ac h] at hpm; cases hpm
            obtain ⟨A, hA⟩ : ∃ A, (pC p).toArray = A := ⟨_, rfl⟩; have hcl := pC_len hpk; have hone := pC_one (p := p); have hA36 : A.size = 36 := by rw [← hA]; simpa using hcl
            rw [hA] at hone; have hbk6 := hM.out.bel.trans (hb6.mono hM.out.bel.size); obtain ⟨ob, oo, hoa, hobb, fo⟩ := (so5'.out.mono hbk6).at (show 2 * kk < 2 * NU by omega); have q0 : w6.cell? ⟨ob, oo + 2 * kk, none⟩ = some (.int .i64 (y.1 : Int)) := fo (2 * kk) _ (by unfold ints; rw [List.getElem?_map, (placesI_get UU kk y hy'.out).1]; rfl); have hyk : y.1 < pn := by rw [← hl'.out]; exact (List.getElem?_eq_some_iff.1 hp'.out).1
            have hqi : ∀ W, Below w6.heap.size w6 W → Blk W w.heap.size 24 #[.int .i64 (a : Int), .int .i64 (d : Int), .slice pa pn pc, .int .i64 s.iv] ∧ W.cell? ⟨ob, oo + 2 * kk, none⟩ = some (.int .i64 (y.1 : Int)) ∧ ∀ j v, (pC p)[j]? = some v → W.cell? ⟨pb, o + y.1 * 36 + j, none⟩ = some v := fun W h => ⟨b6.late h, (h.cell (p := ⟨ob, _, none⟩) hobb).trans q0, fun j v hv => (h.cell (p := ⟨pb, _, none⟩) hpbb).trans (f j v hv)⟩; have hDq := (Below.refl w6.heap.size w6).drew; obtain ⟨wD, hwD⟩ : ∃ W, w6.drew = W := ⟨_, rfl⟩; rw [hwD] at hDq; obtain ⟨Tz, f2, hnn2, hpr2, hsurj2⟩ := pr_worlds (fun W => Blk W w.heap.size 24 #[.int .i64 (a : Int), .int .i64 (d : Int), .slice pa pn pc, .int .i64 s.iv] ∧ W.cell? ⟨ob, oo + 2 * kk, none⟩ = some (.int .i64 (y.1 : Int)) ∧ ∀ j v, (pC p)[j]? = some v → W.cell? ⟨pb, o + y.1 * 36 + j, none⟩ = some v) w6 (hqi w6 (Below.refl _ _)); have HS := Lib.hid (hsurj2 wD (hqi wD hDq)); have HSa := Lib.hid (fun ob => hsurj2 (wD.alloc ob) (hqi _ (hDq.trans (((Below.refl wD.heap.size wD).alloc (Nat.le_refl _) ob).mono hDq.size)))); have z2 : ∀ u, (f2 u).cell? ⟨w.heap.size, 2, none⟩ = some (.slice pa pn pc) := fun u => (hcs'.out _ (hpr2 u).1).2.2.1; have z0 : ∀ u, (f2 u).cell? ⟨ob, oo + 2 * kk, none⟩ = some (.int .i64 (y.1 : Int)) := fun u => (hpr2 u).2.1
            have zp : ∀ W, (∃ u, W = f2 u) → ∀ j v, (pC p)[j]? = some v → W.cell? ⟨pb, o + y.1 * 36 + j, none⟩ = some v := fun W hW j v hv => by
              obtain ⟨u, rfl⟩ := hW; exact (hpr2 u).2.2 j v hv
            have hal7 := (Below.refl wD.heap.size wD).alloc (Nat.le_refl _) (.cells A 47); have bP7 := Blk.new wD 47 A; obtain ⟨w7, hw7⟩ : ∃ W, wD.alloc (.cells A 47) = W := ⟨_, rfl⟩; obtain ⟨g14, hg14⟩ : ∃ g, wD.heap.size = g := ⟨_, rfl⟩; rw [hw7] at hal7 bP7; rw [hg14] at bP7; have hM7 := (hM6.late hDq).late hal7; have hx7 := own_later (own_later hxo hDq) hal7; have HS7 := Lib.hid (hsurj2 w7 (hqi w7 (hDq.trans (hal7.mono hDq.size)))); obtain ⟨y0, y1⟩ := y; simp only at q0 f z0 zp hyk hpa; subst hoa; subst hpa; clear hpm fo f hqi hsurj2 hpr2 hal7 hb6 hbk6 q0 hCe hbm hbm1 hx64; have hcok' := Lib.hid hcok; have hxn' := Lib.hid hxn; have hpk' := Lib.hid hpk; have hm1' := Lib.hid hm1; have hm2' := Lib.hid hm2; have hA' := Lib.hid hA; have hcl' := Lib.hid hcl; have hone' := Lib.hid hone; have hA36' := Lib.hid hA36; have hwD' := Lib.hid hwD; have hDq' := Lib.hid hDq; have hw7' := Lib.hid hw7; have hg14' := Lib.hid hg14; have bP7' := Lib.hid bP7; have hM7' := Lib.hid hM7; have hx7' := Lib.hid hx7; have b6' := Lib.hid b6; have hpbb' := Lib.hid hpbb; have hobb' := Lib.hid hobb; have zp' := Lib.hid zp; have hbw6' := Lib.hid hbw6; have hM6' := Lib.hid hM6; have hxo' := Lib.hid hxo; have hyk' := Lib.hid hyk; clear hcok hxn hpk hm1 hm2 hA hcl hone hA36 hwD hDq hw7 hg14 bP7 hM7 hx7 b6 hpbb hobb zp hbw6 hM6 hxo hyk; have hyk := hyk'.out
            go_upto_region 16 with fail
            refine held_begin (S := fun W => ∃ s, W = f2 s) (by kernel_rfl) 11 rfl ?_; rw [hwD'.out]; refine held_take [0, 1, 2, 3, 4, 5, 6, 7, 8] 2 (by kernel_rfl) (fun d _ _ _ _ h => by cases d <;> exact h) (by kernel_rfl) (by kernel_rfl) (by kernel_rfl) HS.out ?_; simp only [pickL, List.map_cons, List.map_nil, List.getD_cons_succ, List.getD_cons_zero]
            iterate 8 (go_big_quiet_step (fail))
            refine wpQuiet_load_at rfl 47 (.tmp 67) rfl pb (o + y0 * 36) rfl (pC p) A hA'.out _ zp'.out Try.underlying47 rfl 36 infoP hcl'.out ?_; simp only [Act.put, List.setIfInBounds_toArray, List.set_cons_succ, List.set_cons_zero]; refine wpQuiet_nil ?_; clear z2 z0; refine held_one 9 1 (by kernel_rfl) (by kernel_rfl) ?_; simp only [pickL, List.map_cons, List.map_nil, List.getD_cons_succ, List.getD_cons_zero]
            go_wp2_with fail
            refine Mid.mk ⟨HSa.out _, ?_⟩; refine held_one 10 0 (by kernel_rfl) (by kernel_rfl) ?_; simp only [pickL, List.map_cons, List.map_nil, List.getD_cons_succ, List.getD_cons_zero]
            go_wp2_with (refine wpList_store_row rfl 47 (.tmp 14) (.tmp 68) rfl wD.heap.size A rfl rfl 47 _ (heap_new _ _) (by rw [hA36'.out]; exact infoP) (by rw [hA36'.out]; rfl) hone'.out ?_)
            rw [setRow_alloc, hw7'.out, hg14'.out]; refine Mid.mk ⟨HS7.out, ?_⟩; refine held_last (by kernel_rfl) ?_; clear HS HSa HS7
            go_wp2
            have hln : l.length = xn := hxn'.out.symm; have hxn70 : xn ≤ 70 := by omega
            have hln' := Lib.hid hln; have hl70' := Lib.hid hl70; clear hln hl70
            go_loopw [7, 15, 16] (fun rv iv _ wl => ∃ (i : Nat) (ra2 : Option Addr) (rn2 rc2 : Nat) (t2 : WrT), i ≤ xn ∧ rn2 ≤ rn + 32 * i ∧ iv = .int .i64 i ∧ rv = .slice ra2 rn2 rc2 ∧ Hid (putL (putW s.ps) y0 t (l.take i) = .ok t2) ∧ Hid (WrM w5 wl ea en ec ra2 rn2 rc2 t2) ∧ Hid (wl.ownsRow 0 133 4 (.slice xa xn xc) xn (codC l)) ∧ Hid (Blk wl g14 47 A)) (fun _ iv _ _ => xn - (intOf iv).toNat)
            case atStart => exact ⟨0, ra, rn, rc, t, by omega, by omega, rfl, rfl, Lib.hid rfl, hM7', hx7', bP7'⟩
            case round =>
              rename World => wl
              obtain ⟨i, ra2, rn2, rc2, t2, hix, hrn2, rfl, rfl, hput, hM2, hx2, hP2⟩ := hrel
              by_cases hixl : i < xn
              · obtain ⟨x2, hxi⟩ : ∃ x2, l[i]? = some x2 := ⟨_, List.getElem?_eq_getElem (by rw [hln'.out]; exact hixl)⟩
                have hok2 := hcok'.out x2 (List.mem_of_getElem? hxi); have hps := putL_snoc (ps := s.ps) (part := y0) (t := t) hxi; rw [hput.out] at hps
                replace hps : putL (putW s.ps) y0 t (l.take (i + 1)) = putW s.ps t2 y0 x2 := hps
                obtain ⟨xb, xo, hxae, hxbb, c0, c1, c2, c3⟩ := wcod_elem hx2.out hxi; have hcA : codeA s.ps y0 x2 = codeP p x2 := by unfold codeA; rw [hp'.out]; rfl
                have hpw0 := putW_no (ps := s.ps) (t := t2) (part := y0) (x := x2); have hpw1 := fun X => putW_ok (ps := s.ps) (t := t2) (part := y0) (x := x2) (X := X); rw [hcA] at hpw0 hpw1; obtain ⟨ac, sym, V, Nb⟩ := x2; obtain ⟨o1, o2, o3, o4, o5, o6, o7⟩ := hok2; simp only at o1 o2 o3 o4 o5 o6 o7 c0 c1 c2 c3 hpw0 hpw1; obtain ⟨v, rfl⟩ : ∃ v : Nat, V = v := ⟨V.toNat, by omega⟩; obtain ⟨nb, rfl⟩ : ∃ v : Nat, Nb = v := ⟨Nb.toNat, by omega⟩; rw [Int.toNat_natCast] at hpw1; have hbwl := hbw5'.out.trans (hM2.out.bel.mono hbw5'.out.size); obtain ⟨H1, hH1⟩ : ∃ H, (hufC p.2.2.1).toArray = H := ⟨_, rfl⟩; obtain ⟨H2, hH2⟩ : ∃ H, (hufC p.2.2.2).toArray = H := ⟨_, rfl⟩; have hl1 := hufC_len hpk'.out.dc.len; have hl2 := hufC_len hpk'.out.ac.len; obtain ⟨XD, hXD⟩ : ∃ X, codeS p.2.2.1.1.1 p.2.2.1.1.2 sym = X := ⟨_, rfl⟩; obtain ⟨XA, hXA⟩ : ∃ X, codeS p.2.2.2.1.1 p.2.2.2.1.2 sym = X := ⟨_, rfl⟩; have HC1 := fun W (h : Below wl.heap.size wl W) => rcodeH hpk'.out.dc hm1'.out H1 hH1 sym W (hbwl.trans (h.mono hbwl.size)); have HC2 := fun W (h : Below wl.heap.size wl W) => rcodeH hpk'.out.ac hm2'.out H2 hH2 sym W (hbwl.trans (h.mono hbwl.size)); rw [hXD] at HC1; rw [hXA] at HC2; have hcP : codeP p (ac, sym, (v : Int), (nb : Int)) = if ac = 0 then XD else XA := by unfold codeP; rw [← hXD, ← hXA]
                rw [hcP] at hpw0 hpw1; have hq2 : ∀ W, Below wl.heap.size wl W → Blk W g14 47 A ∧ W.cell? ⟨xb, xo + i * 4 + 1, none⟩ = some (.int .i64 sym) := fun W h => ⟨hP2.out.late h, (h.cell (p := ⟨xb, _, none⟩) hxbb).trans c1⟩; have hpB := fun W (h : Blk W g14 47 A) => (pB_cells (p := p) hpk'.out.dc.len (hA'.out ▸ h)).2.2; have hDl := (Below.refl wl.heap.size wl).drew; obtain ⟨wE, hwE⟩ : ∃ W, wl.drew = W := ⟨_, rfl⟩; rw [hwE] at hDl; subst hxae; clear hcA hcP; have hxi' := Lib.hid hxi; have hps' := Lib.hid hps; have hpw0' := Lib.hid hpw0; have hpw1' := Lib.hid hpw1; have hbwl' := Lib.hid hbwl; have hH1' := Lib.hid hH1; have hH2' := Lib.hid hH2; have hl1' := Lib.hid hl1; have hl2' := Lib.hid hl2; have hXD' := Lib.hid hXD; have hXA' := Lib.hid hXA; have HC1' := Lib.hid HC1; have HC2' := Lib.hid HC2; have hq2' := Lib.hid hq2; have hpB' := Lib.hid hpB; have hwE' := Lib.hid hwE; have hDl' := Lib.hid hDl; have hput' := Lib.hid hput; have hxbb' := Lib.hid hxbb; clear hxi hps hpw0 hpw1 hbwl hH1 hH2 hl1 hl2 hXD hXA HC1 HC2 hq2 hpB hwE hDl hput hxbb
                go_upto_region 20 with fail
                go_cut [16] from 69 to 120 (fun v16 wx => ∃ g16, v16 = .pointer (some ⟨g16, 0, none⟩) ∧ Hid (Blk wx g16 102 (cdP XD)) ∧ Hid (Below wl.heap.size wl wx) ∧ Hid (wl.heap.size ≤ g16))
                case first =>
                  obtain ⟨Tz2, f3, hnn3, hpr3, hsurj3⟩ := pr_worlds (fun W => Blk W g14 47 A ∧ W.cell? ⟨xb, xo + i * 4 + 1, none⟩ = some (.int .i64 sym)) wl (hq2'.out wl (Below.refl _ _)); have HS := Lib.hid (hsurj3 wE (hq2'.out wE hDl'.out)); have z0 : ∀ u, (f3 u).cell? ⟨xb, xo + i * 4 + 1, none⟩ = some (.int .i64 sym) := fun u => (hpr3 u).2
                  have zp : ∀ W, (∃ u, W = f3 u) → ∀ j v, (hufC p.2.2.1)[j]? = some v → W.cell? ⟨g14, 2 + j, none⟩ = some v := fun W hW j v hv => by
                    obtain ⟨u, rfl⟩ := hW; exact (hpB'.out _ (hpr3 u).1).1 j v hv
                  clear hpr3 c0 c1 c2 c3; have zp' := Lib.hid zp; have hsurj3' := Lib.hid hsurj3; clear zp hsurj3; refine held_begin (S := fun W => ∃ s, W = f3 s) (by kernel_rfl) 10 rfl ?_; rw [hwE'.out]; refine held_take [0, 1, 2, 3, 4, 5, 6] 3 (by kernel_rfl) (fun d _ _ _ _ h => by cases d <;> exact h) (by kernel_rfl) (by kernel_rfl) (by kernel_rfl) HS.out ?_; simp only [pickL, List.map_cons, List.map_nil, List.getD_cons_succ, List.getD_cons_zero]
                  iterate 1 (go_big_quiet_step (fail))
                  refine wpQuiet_load_at rfl 45 (.tmp 75) rfl g14 2 rfl (hufC p.2.2.1) H1 hH1'.out _ zp'.out Try.underlying45 rfl 17 infoH17 hl1'.out ?_; simp only [Act.put, List.setIfInBounds_toArray, List.set_cons_succ, List.set_cons_zero]
                  iterate 5 (go_big_quiet_step (fail))
                  refine wpQuiet_nil ?_; clear z0; refine held_two 7 8 2 (by kernel_rfl) (by kernel_rfl) ?_ ?_
                  all_goals simp only [pickL, List.map_cons, List.map_nil, List.getD_cons_succ, List.getD_cons_zero]
                  case refine_1 =>
                    go_wp2_with fail
                    refine (HC1'.out wE hDl'.out).mono ?_; rintro e w8 ⟨rfl, hb8⟩; have hb8 := hDl'.out.trans (hb8.mono hDl'.out.size); have hal9 := (Below.refl w8.heap.size w8).alloc (Nat.le_refl _) (.cells #[.int .i64 0, .int .i64 0] 102); have b9 := Blk.new w8 102 #[.int .i64 0, .int .i64 0]; obtain ⟨w9, hw9⟩ : ∃ W, w8.alloc (.cells #[.int .i64 0, .int .i64 0] 102) = W := ⟨_, rfl⟩; rw [hw9] at hal9 b9; have hb9 := hb8.trans (hal9.mono hb8.size); have HS8 := Lib.hid (hsurj3'.out w8 (hq2'.out w8 hb8)); have HS9 := Lib.hid (hsurj3'.out w9 (hq2'.out w9 hb9)); have hbA := rowBelow hb9 (g := w8.heap.size) hb8.size (cdP XD); have bA := Blk.rowH b9 (cdP XD); have HSA := Lib.hid (hsurj3'.out (w9.setRow w8.heap.size (cdP XD)) (hq2'.out _ hbA)); have hg8 := hb8.size; clear hb8 hal9 hb9; have b9' := Lib.hid b9; have hw9' := Lib.hid hw9; have hbA' := Lib.hid hbA; have bA' := Lib.hid bA; have hg8' := Lib.hid hg8; clear b9 hw9 hbA bA hg8
                    go_wp2_with fail
                    refine Mid.mk ⟨HS8.out, ?_⟩; refine held_one 8 1 (by kernel_rfl) (by kernel_rfl) ?_; simp only [pickL, List.map_cons, List.map_nil, List.getD_cons_succ, List.getD_cons_zero]
                    go_wp2_with fail
                    rw [hw9'.out]; refine Mid.mk ⟨HS9.out, ?_⟩; refine held_one 9 0 (by kernel_rfl) (by kernel_rfl) ?_; simp only [pickL, List.map_cons, List.map_nil, List.getD_cons_succ, List.getD_cons_zero]
                    go_wp2_with (refine wpList_store_row rfl 102 (.tmp 16) (.tmp 82) rfl w8.heap.size (cdP XD) rfl rfl 102 _ b9'.out (infoBt2 XD) rfl (cdP_one XD) ?_)
                    refine Mid.mk ⟨HSA.out, ?_⟩; refine held_last (by kernel_rfl) ?_
                    go_wp2
                    go_meet
                    case rel => exact ⟨w8.heap.size, rfl, bA', hbA', hg8'⟩
                  case refine_2 =>
                    have hal9 := (Below.refl wE.heap.size wE).alloc (Nat.le_refl _) (.cells #[.int .i64 0, .int .i64 0] 102); have b9 := Blk.new wE 102 #[.int .i64 0, .int .i64 0]; obtain ⟨w9, hw9⟩ : ∃ W, wE.alloc (.cells #[.int .i64 0, .int .i64 0] 102) = W := ⟨_, rfl⟩; rw [hw9] at hal9 b9; have hb9 := hDl'.out.trans (hal9.mono hDl'.out.size); have HS9 := Lib.hid (hsurj3'.out w9 (hq2'.out w9 hb9)); have HC := HC1'.out w9 hb9; have hgE := hDl'.out.size; clear hal9; have b9' := Lib.hid b9; have hw9' := Lib.hid hw9; have hb9' := Lib.hid hb9; have HC' := Lib.hid HC; have hgE' := Lib.hid hgE; clear b9 hw9 hb9 HC hgE
                    go_wp2_with fail
                    rw [hw9'.out]; refine Mid.mk ⟨HS9.out, ?_⟩; refine held_one 7 1 (by kernel_rfl) (by kernel_rfl) ?_; simp only [pickL, List.map_cons, List.map_nil, List.getD_cons_succ, List.getD_cons_zero]
                    go_wp2_with fail
                    refine HC'.out.mono ?_; rintro e w8 ⟨rfl, hb8⟩; have b8 := b9'.out.late hb8; have hb89 := hb9'.out.trans (hb8.mono hb9'.out.size); have HS8 := Lib.hid (hsurj3'.out w8 (hq2'.out w8 hb89)); have hbA := rowBelow hb89 (g := wE.heap.size) hgE'.out (cdP XD); have bA := Blk.rowH b8 (cdP XD); have HSA := Lib.hid (hsurj3'.out (w8.setRow wE.heap.size (cdP XD)) (hq2'.out _ hbA)); clear hb8 hb89; have b8' := Lib.hid b8; have hbA' := Lib.hid hbA; have bA' := Lib.hid bA; clear b8 hbA bA
                    go_wp2_with fail
                    refine Mid.mk ⟨HS8.out, ?_⟩; refine held_one 9 0 (by kernel_rfl) (by kernel_rfl) ?_; simp only [pickL, List.map_cons, List.map_nil, List.getD_cons_succ, List.getD_cons_zero]
                    go_wp2_with (refine wpList_store_row rfl 102 (.tmp 16) (.tmp 82) rfl wE.heap.size (cdP XD) rfl rfl 102 _ b8'.out (infoBt2 XD) rfl (cdP_one XD) ?_)
                    refine Mid.mk ⟨HSA.out, ?_⟩; refine held_last (by kernel_rfl) ?_
                    go_wp2
                    go_meet
                    case rel => exact ⟨wE.heap.size, rfl, bA', hbA', hgE'⟩
                case rest =>
                  obtain ⟨g16, rfl, b16, hb16, hg16⟩ := hcut
                  rename World => wm
                  have c0 := (hb16.out.cell (p := ⟨xb, _, none⟩) hxbb'.out).trans c0; clear c1 c2 c3
                  go_upto_if 88 with fail
                  go_cut [] from 69 to 120 (fun wx => Hid (Blk wx g16 102 (cdP (if ac = 0 then XD else XA))) ∧ Hid (Below wl.heap.size wl wx))
                  case first =>
                    rcases o1 with rfl | rfl
                    · go_wp2
                      go_meet
                      case rel => exact ⟨Lib.hid (by simpa using b16.out), hb16⟩
                    · have hDm := (Below.refl wm.heap.size wm).drew
                      obtain ⟨wG, hwG⟩ : ∃ W, wm.drew = W := ⟨_, rfl⟩; rw [hwG] at hDm; have hbG := hb16.out.trans (hDm.mono hb16.out.size); have bG := b16.out.late hDm; obtain ⟨Tz2, f3, hnn3, hpr3, hsurj3⟩ := pr_worlds (fun W => Blk W g14 47 A ∧ W.cell? ⟨xb, xo + i * 4 + 1, none⟩ = some (.int .i64 sym)) wl (hq2'.out wl (Below.refl _ _)); have HS := Lib.hid (hsurj3 wG (hq2'.out wG hbG)); have z0 : ∀ u, (f3 u).cell? ⟨xb, xo + i * 4 + 1, none⟩ = some (.int .i64 sym) := fun u => (hpr3 u).2
                      have zp : ∀ W, (∃ u, W = f3 u) → ∀ j v, (hufC p.2.2.2)[j]? = some v → W.cell? ⟨g14, 19 + j, none⟩ = some v := fun W hW j v hv => by
                        obtain ⟨u, rfl⟩ := hW; exact (hpB'.out _ (hpr3 u).1).2 j v hv
                      have HC := HC2'.out wG hbG; clear hpr3 c0 hDm; have zp' := Lib.hid zp; have hsurj3' := Lib.hid hsurj3; have HC' := Lib.hid HC; have hwG' := Lib.hid hwG; have bG' := Lib.hid bG; have hbG' := Lib.hid hbG; clear zp hsurj3 HC hwG bG hbG
                      go_upto_region 22 with fail
                      refine held_begin (S := fun W => ∃ s, W = f3 s) (by kernel_rfl) 9 rfl ?_; rw [hwG'.out]; refine held_take [0, 1, 2, 3, 4, 5, 6] 2 (by kernel_rfl) (fun d _ _ _ _ h => by cases d <;> exact h) (by kernel_rfl) (by kernel_rfl) (by kernel_rfl) HS.out ?_; simp only [pickL, List.map_cons, List.map_nil, List.getD_cons_succ, List.getD_cons_zero]
                      iterate 1 (go_big_quiet_step (fail))
                      refine wpQuiet_load_at rfl 45 (.tmp 89) rfl g14 19 rfl (hufC p.2.2.2) H2 hH2'.out _ zp'.out Try.underlying45 rfl 17 infoH17 hl2'.out ?_; simp only [Act.put, List.setIfInBounds_toArray, List.set_cons_succ, List.set_cons_zero]
                      iterate 5 (go_big_quiet_step (fail))
                      refine wpQuiet_nil ?_; clear z0; refine held_one 7 1 (by kernel_rfl) (by kernel_rfl) ?_; simp only [pickL, List.map_cons, List.map_nil, List.getD_cons_succ, List.getD_cons_zero]
                      go_wp2_with fail
                      refine HC'.out.mono ?_; rintro e w8 ⟨rfl, hb8⟩; have b8 := bG'.out.late hb8; have hb89 := hbG'.out.trans (hb8.mono hbG'.out.size); have HS8 := Lib.hid (hsurj3'.out w8 (hq2'.out w8 hb89)); have hbA := rowBelow hb89 (g := g16) hg16.out (cdP XA); have bA := Blk.rowH b8 (cdP XA); have HSA := Lib.hid (hsurj3'.out (w8.setRow g16 (cdP XA)) (hq2'.out _ hbA)); clear hb8 hb89; have b8' := Lib.hid b8; have hbA' := Lib.hid hbA; have bA' := Lib.hid bA; clear b8 hbA bA
                      go_wp2_with fail
                      refine Mid.mk ⟨HS8.out, ?_⟩; refine held_one 8 0 (by kernel_rfl) (by kernel_rfl) ?_; simp only [pickL, List.map_cons, List.map_nil, List.getD_cons_succ, List.getD_cons_zero]
                      go_wp2_with (refine wpList_store_row rfl 102 (.tmp 16) (.tmp 96) rfl g16 (cdP XA) rfl rfl 102 _ b8'.out (infoBt2 XA) rfl (cdP_one XA) ?_)
                      refine Mid.mk ⟨HSA.out, ?_⟩; refine held_last (by kernel_rfl) ?_
                      go_wp2
                      go_meet
                      case rel => exact ⟨Lib.hid (by simpa using bA'.out), hbA'⟩
                  case rest =>
                    clear b16 hb16 c0; obtain ⟨b16, hb16⟩ := hcut
                    rename World => wz
                    obtain ⟨X, hX⟩ : ∃ X, (if ac = 0 then XD else XA) = X := ⟨_, rfl⟩; rw [hX] at b16; have hpw0 := hpw0'.out; have hpw1 := hpw1'.out; rw [hX] at hpw0 hpw1; have hMz := hM2.out.late hb16.out; have hxz := own_later hx2.out hb16.out; have hPz := hP2.out.late hb16.out
                    cases X with
                    | none =>
                      have hwr := hter'.out 2 (hsto'.out l 2 rfl (putL_err (hps'.out.trans (hpw0 rfl)))); have n1 : wz.cell? ⟨g16, 1, none⟩ = some (.int .i64 0) := b16.out.cell rfl; have hbwz := hbwl'.out.trans (hb16.out.mono hbwl'.out.size); clear hpw0 hpw1 hMz hxz hPz; have hwr' := Lib.hid hwr; have hX' := Lib.hid hX; have hbwz' := Lib.hid hbwz; clear hwr hX hbwz
                      go_wp2
                      go_ret2
                      exact WrP.err hwr'.out rfl hbwz'.out
                    | some X =>
                      have hXok : CodeOk X := by
                        by_cases h0 : ac = 0
                        · rw [if_pos h0] at hX
                          exact codeS_bits (hXD'.out.trans hX)
                        · rw [if_neg h0] at hX
                          exact codeS_bits (hXA'.out.trans hX)
                      have hp1 := hpw1 X rfl; obtain ⟨x1, x2⟩ := X; obtain ⟨q1, q2, q3, q4⟩ := hXok; simp only at q1 q2 q3 q4 hp1; obtain ⟨x1, rfl⟩ : ∃ v : Nat, x1 = v := ⟨x1.toNat, by omega⟩; have hp16 : (2 : Int) ^ x2 ≤ 2 ^ 16 := by exact_mod_cast Nat.pow_le_pow_right (by decide : 0 < 2) q2
                      have hx16 : x1 < 65536 := by omega
                      have n0 : wz.cell? ⟨g16, 0, none⟩ = some (.int .i64 (x1 : Int)) := b16.out.cell rfl; have n1 : wz.cell? ⟨g16, 1, none⟩ = some (.int .i64 (x2 : Int)) := b16.out.cell rfl; have hx20 : ((x2 : Int) == 0) = false := by simp; omega
                      have hps2 := hps'.out.trans hp1; clear hpw0 hpw1 q4 hp16 hp1; have hX' := Lib.hid hX; have hMz' := Lib.hid hMz; have hxz' := Lib.hid hxz; have hPz' := Lib.hid hPz; have hps2' := Lib.hid hps2; clear hX hMz hxz hPz hps2
                      go_upto_region 25 with fail
                      have hMq := (fun W h => ⟨(b16.out.late h), own_later hxz'.out h⟩ : ∀ W, Below wz.heap.size wz W → Blk W g16 102 (cdP (some ((x1 : Int), x2))) ∧ W.ownsRow 0 133 4 (.slice (some ⟨xb, xo, none⟩) xn xc) xn (codC l)); have hDz := (Below.refl wz.heap.size wz).drew; obtain ⟨wH, hwH⟩ : ∃ W, wz.drew = W := ⟨_, rfl⟩; rw [hwH] at hDz; obtain ⟨Tz2, f3, hnn3, hpr3, hsurj3⟩ := pr_worlds (fun W => Blk W g16 102 (cdP (some ((x1 : Int), x2))) ∧ W.ownsRow 0 133 4 (.slice (some ⟨xb, xo, none⟩) xn xc) xn (codC l)) wz (hMq wz (Below.refl _ _)); have HS := Lib.hid (hsurj3 wH (hMq wH hDz)); have z0 : ∀ u, (f3 u).cell? ⟨g16, 0, none⟩ = some (.int .i64 (x1 : Int)) := fun u => (hpr3 u).1.cell rfl; have z1 : ∀ u, (f3 u).cell? ⟨g16, 1, none⟩ = some (.int .i64 (x2 : Int)) := fun u => (hpr3 u).1.cell rfl
                      have zc : ∀ u, (f3 u).cell? ⟨xb, xo + i * 4 + 2, none⟩ = some (.int .i64 (v : Int)) ∧ (f3 u).cell? ⟨xb, xo + i * 4 + 2 + 1, none⟩ = some (.int .i64 (nb : Int)) := fun u => by
                        obtain ⟨xb2, xo2, e, _, _, _, h2, h3⟩ := wcod_elem (hpr3 u).2 hxi'.out; injection e with e; injection e with e1 e2 _; subst e1; subst e2; exact ⟨h2, h3⟩
                      have z2 := fun u => (zc u).1; have z3 := fun u => (zc u).2; have hMH := hMz'.out.late hDz; have hxH := own_later hxz'.out hDz; have hPH := hPz'.out.late hDz; have bH := b16.out.late hDz; have HL1 := rlow_any x1 x2 wH (by omega) q2; clear n0 n1 hMq hDz zc hpr3 b16 hb16 hg16; have hMH' := Lib.hid hMH; have hxH' := Lib.hid hxH; have hPH' := Lib.hid hPH; have bH' := Lib.hid bH; have HL1' := Lib.hid HL1; have hsurj3' := Lib.hid hsurj3; have hwH' := Lib.hid hwH; clear hMH hxH hPH bH HL1 hsurj3 hwH; refine held_begin (S := fun W => ∃ s, W = f3 s) (by kernel_rfl) 22 rfl ?_; rw [hwH'.out]; refine held_take [0, 1, 2, 3, 4, 7, 8, 9, 10, 11, 12, 13, 14, 15, 16, 17, 18] 5 (by kernel_rfl) (fun d _ _ _ _ h => by cases d <;> exact h) (by kernel_rfl) (by kernel_rfl) (by kernel_rfl) HS.out ?_; simp only [pickL, List.map_cons, List.map_nil, List.getD_cons_succ, List.getD_cons_zero]
                      iterate 17 (go_big_quiet_step (fail))
                      refine wpQuiet_nil ?_; clear z0 z1 z2 z3; refine held_one 5 4 (by kernel_rfl) (by kernel_rfl) ?_; simp only [pickL, List.map_cons, List.map_nil, List.getD_cons_succ, List.getD_cons_zero]
                      go_wp2_with fail
                      refine HL1'.out.mono ?_; rintro e wJ ⟨a6, c6, rfl, ho6, hb6⟩; have s6 := (Sl.of_own ho6).1; have hMJ := hMH'.out.late hb6; have hxJ := own_later hxH'.out hb6; have hPJ := hPH'.out.late hb6; have bJ := bH'.out.late hb6; have HSJ := Lib.hid (hsurj3'.out wJ ⟨bJ, hxJ⟩); have hsJ := hMJ.bel.size; clear ho6 hb6; have s6' := Lib.hid s6; have hMJ' := Lib.hid hMJ; have hxJ' := Lib.hid hxJ; have hPJ' := Lib.hid hPJ; have bJ' := Lib.hid bJ; clear s6 hMJ hxJ hPJ bJ
                      go_wp2_with fail
                      refine Mid.mk ⟨HSJ.out, ?_⟩; refine held_one 6 3 (by kernel_rfl) (by kernel_rfl) ?_; simp only [pickL, List.map_cons, List.map_nil, List.getD_cons_succ, List.getD_cons_zero]
                      go_wp2_with (at_builtin; refine wpList_app rfl _ _ 35 rfl w5.heap.size 3 i1 _ 1 8 Try.underlying35 hi hz0 hz1 hz2 rfl (by decide) _ rn2 _ rfl hMJ'.out.row a6 x2 c6 _ rfl s6'.out ints_one (by omega) (by decide) hsJ ?_; intro a7 c7 w7 ho7 hb7 hg7; have Ho7 := Lib.hid ho7; have Hb7 := Lib.hid hb7; have Hg7 := Lib.hid hg7; clear ho7 hb7 hg7)
                      have hmg := Mo.of_grown (S := fun j => (Value.slice ra2 rn2 rc2).ownBlock = some j) Hg7.out fun j hj => hj; have hM7 := hMJ'.out.app (lowS_bit _ _) Ho7.out Hb7.out Hg7.out; have hx7 := own_mo hxJ'.out hmg (own_neR hxJ'.out hMJ'.out.row (by decide)); have hP7 := hPJ'.out.mo hmg (own_neB hMJ'.out.row hPJ'.out (by decide)); have b7 := bJ'.out.mo hmg (own_neB hMJ'.out.row bJ'.out (by decide)); have HS7 := Lib.hid (hsurj3'.out w7 ⟨b7, hx7⟩); have HL2 := rlow_any v nb w7 (by omega) (by omega); clear hmg Ho7 Hb7 Hg7; have hM7' := Lib.hid hM7; have hx7' := Lib.hid hx7; have hP7' := Lib.hid hP7; have b7' := Lib.hid b7; have HL2' := Lib.hid HL2; clear hM7 hx7 hP7 b7 HL2; refine Mid.mk ⟨HS7.out, ?_⟩; refine held_one 19 2 (by kernel_rfl) (by kernel_rfl) ?_; simp only [pickL, List.map_cons, List.map_nil, List.getD_cons_succ, List.getD_cons_zero]
                      go_wp2_with fail
                      refine HL2'.out.mono ?_; rintro e w8 ⟨a8, c8, rfl, ho8, hb8⟩; have s8 := (Sl.of_own ho8).1; have hM8 := hM7'.out.late hb8; have hx8 := own_later hx7'.out hb8; have hP8 := hP7'.out.late hb8; have b8 := b7'.out.late hb8; have HS8 := Lib.hid (hsurj3'.out w8 ⟨b8, hx8⟩); have hs8 := hM8.bel.size; clear ho8 hb8; have s8' := Lib.hid s8; have hM8' := Lib.hid hM8; have hx8' := Lib.hid hx8; have hP8' := Lib.hid hP8; have b8' := Lib.hid b8; clear s8 hM8 hx8 hP8 b8
                      go_wp2_with fail
                      refine Mid.mk ⟨HS8.out, ?_⟩; refine held_one 20 1 (by kernel_rfl) (by kernel_rfl) ?_; simp only [pickL, List.map_cons, List.map_nil, List.getD_cons_succ, List.getD_cons_zero]
                      go_wp2_with (at_builtin; refine wpList_app rfl _ _ 35 rfl w5.heap.size 3 i1 _ 1 8 Try.underlying35 hi hz0 hz1 hz2 rfl (by decide) _ (rn2 + x2) _ rfl hM8'.out.row a8 nb c8 _ rfl s8'.out ints_one (by omega) (by decide) hs8 ?_; intro a9 c9 w9 ho9 hb9 hg9; have Ho9 := Lib.hid ho9; have Hb9 := Lib.hid hb9; have Hg9 := Lib.hid hg9; clear ho9 hb9 hg9)
                      have hmg := Mo.of_grown (S := fun j => (Value.slice a7 (rn2 + x2) c7).ownBlock = some j) Hg9.out fun j hj => hj; have hM9 : WrM w5 w9 ea en ec a9 (rn2 + x2 + nb) c9 (t2.1, t2.2 ++ lowS (x1 : Int) x2 ++ lowS (v : Int) nb) := hM8'.out.app (lowS_bit _ _) Ho9.out Hb9.out Hg9.out; have hps3 : putL (putW s.ps) y0 t (l.take (i + 1)) = .ok (t2.1, t2.2 ++ lowS (x1 : Int) x2 ++ lowS (v : Int) nb) := hps2'.out
                      have hbd : rn2 + x2 + nb ≤ rn + 32 * (i + 1) := by
                        have h1 : nb ≤ 11 := by omega
                        clear o1 o2 o3 o4 o5 o6
                        omega
                      have hx9 := own_mo hx8'.out hmg (own_neR hx8'.out hM8'.out.row (by decide)); have hP9 := hP8'.out.mo hmg (own_neB hM8'.out.row hP8'.out (by decide)); have b9 := b8'.out.mo hmg (own_neB hM8'.out.row b8'.out (by decide)); have HS9 := Lib.hid (hsurj3'.out w9 ⟨b9, hx9⟩); clear hmg Ho9 Hb9 Hg9; have hM9' := Lib.hid hM9; have hx9' := Lib.hid hx9; have hP9' := Lib.hid hP9; have b9' := Lib.hid b9; have hps3' := Lib.hid hps3; clear hM9 hx9 hP9 b9 hps3; refine Mid.mk ⟨HS9.out, ?_⟩; refine held_one 21 0 (by kernel_rfl) (by kernel_rfl) ?_; simp only [pickL, List.map_cons, List.map_nil, List.getD_cons_succ, List.getD_cons_zero]
                      go_wp2_with fail
                      refine Mid.mk ⟨HS9.out, ?_⟩; refine held_last (by kernel_rfl) ?_; clear HS HSJ HS7 HS8 HS9
                      go_wp2
                      go_roundw
                      case rel => exact ⟨i + 1, a9, rn2 + x2 + nb, c9, _, hixl, hbd, by go_num, rfl, hps3', hM9', hx9', hP9'⟩
                      case measure => simp [intOf]; omega
              · obtain rfl : i = xn := by omega
                have hall : l.take i = l := List.take_of_length_le (Nat.le_of_eq hln'.out); have hput2 := hput.out; rw [hall] at hput2; have hat2 := htok'.out _ (hstk'.out l t2 rfl hput2); have hla2 := hla.out.next hy'.out; have hat2' := Lib.hid hat2; have hla2' := Lib.hid hla2; clear hat2 hla2; clear hput hall hput2
                go_wp2
                go_roundw
                case rel => exact ⟨kk + 1, ea, en, ec, ra2, rn2, rc2, rr, t2, _, by omega, by omega, by omega, by go_num, rfl, rfl, rfl, hrr, hat2', hla2', hM2⟩
                case measure => simp [intOf]; omega
    · have hkN : kk = NU := by omega
      have hfin : writeS s (bs.map (·.1)) = .ok (t.1 ++ bytesS t.2) := by
        have h1 := hat.out; rw [hkN, ← hNU'.out] at h1; exact hwo'.out t la (h1.fin hNs'.out hU'.out hU0'.out)
      have HB := rbytes_any ra rn rc t.2 wr (Sl.of_own hM.out.row).1 (by omega) hM.out.bit; have hrl := hM.out.rowl; have hfin' := Lib.hid hfin; have HB' := Lib.hid HB; have hrl' := Lib.hid hrl; clear hfin HB hrl
      go_wp2_with fail
      refine HB'.out.mono ?_; rintro e w6 ⟨a2, m, c2, rfl, ho2, hb6⟩; have hM6 := hM.out.late hb6; have s2 := (Sl.of_own ho2).1; have hml := s2.ilen; have hml2 : m ≤ rn + 2 := by rw [← hml, ← hrl'.out]; exact bytesS_le _
      have hs6 := hM6.bel.size; clear ho2 hb6 hml; have hM6' := Lib.hid hM6; have s2' := Lib.hid s2; clear hM6 s2
      go_wp2_with (at_builtin; refine wpList_app rfl _ _ 30 rfl w5.heap.size 5 i8 _ 1 1 Try.underlying30 hi8 hz80 hz81 hz82 rfl (by decide) _ en _ rfl hM6'.out.out a2 m c2 _ rfl s2'.out ints_one (by omega) (by decide) hs6 ?_; intro a7 c7 w7 ho7 hb7 hg7; have Ho7 := Lib.hid ho7; have Hb7 := Lib.hid (hM6'.out.bel.trans hb7); clear ho7 hb7 hg7)
      have hbw7 := hbw5'.out.trans (Hb7.out.mono hbw5'.out.size)
      have s7 : Sl w7 a7 (en + m) c7 1 (ints .u8 (t.1 ++ bytesS t.2)) := by
        rw [show ints .u8 (t.1 ++ bytesS t.2) = ints .u8 t.1 ++ ints .u8 (bytesS t.2) by unfold ints; rw [List.map_append]]; exact (Sl.of_own Ho7.out).1
      clear Ho7 Hb7; have hbw7' := Lib.hid hbw7; have s7' := Lib.hid s7; clear hbw7 s7
      go_wp2
      go_ret2
      exact WrP.ok hfin'.out rfl s7'.out hbw7'.out
end Go.Proofs.Ytpjopeojeglogaa
