/- Chapter 14: the law TablesBytes: the walk. | Chapter 14: the law TablesRead: the walk. -/
import Derived.Test.YtpjopeojeglogaaCd34
import Derived.Test.YtpjopeojeglogaaCd36
import Derived.Test.YtpjopeojeglogaaCd39
import Derived.Test.YtpjopeojeglogaaCd40
namespace Go.Proofs.Ytpjopeojeglogaa
open Go.RowKit Tt
set_option linter.unusedVariables false
set_option linter.unusedSimpArgs false

theorem cdsB_of {w : World} {B B2 : Nat} {ms : List CdM} {a : Option Addr} {m c : Nat} (h : SymsOk w B ms) (ho : w.ownsRow B2 165 19 (.slice a m c) m ((ms.map cMC).flatten)) (hok : ∀ x ∈ ms.map (·.1), cOk x = true) : CdsB w a m c ms :=
  ⟨(Sl.of_own ho).1, fun x hx => ⟨(h x hx).1, (Sl.of_own (h x hx).2).1, byt_wf (fun y hy => by
    have := (cOk_byt (hok x.1 (List.mem_map_of_mem hx)) (h x hx).1).2.2.2 y hy
    omega)⟩⟩
end Go.Proofs.Ytpjopeojeglogaa

namespace Go.Proofs.Ytpjopeojeglogaa
open Go.RowKit Tt
set_option linter.unusedVariables false
set_option linter.unusedSimpArgs false

/-- the law's own copy of the bytes -/
structure RO (w0 : World) (a : Option Addr) (n c : Nat) (z : List Int) (W : World) : Prop where
  s : Sl W a n c 1 (ints .u8 z)
  l : ∀ x, a = some x → x.block < W.heap.size
  b : Below w0.heap.size w0 W
theorem RO.late {w0 : World} {a : Option Addr} {n c : Nat} {z : List Int} {W W' : World} (h : RO w0 a n c z W) (hb : Below W.heap.size W W') : RO w0 a n c z W' :=
  ⟨h.s.mono hb, fun x hx => Nat.lt_of_lt_of_le (h.l x hx) hb.size, h.b.trans (hb.mono h.b.size)⟩
theorem len_Q (n : Nat) (z : List Int) : ∀ x ∈ (readAll takeQ n z).2, x.2.length = 64 := fun x hx => by
  by_cases h : (readAll takeQ n z).1 = 0
  · exact (bytes_Q (q := (readAll takeQ n z).2) (by rw [← h])).2.1 x hx
  · rw [readAll_err n z h] at hx; cases hx
theorem ok_C (n : Nat) (z : List Int) : ∀ x ∈ (readAll takeC n z).2, cOk x = true := fun x hx => by
  by_cases h : (readAll takeC n z).1 = 0
  · exact (allW_some (bytes_C (q := (readAll takeC n z).2) (by rw [← h])).1).1 x hx
  · rw [readAll_err n z h] at hx; cases hx
set_option maxRecDepth 100000 in
set_option maxHeartbeats 8000000 in
theorem read14_law (a : Option Addr) (n c : Nat) (z : List Int) (w : World) (hs : Sl w a n c 1 (ints .u8 z)) (hz : Byt z) :
    Calls Try.prog 8 #[.slice a n c] w (AwR w) := by
  have hzl := hs.ilen
  by_cases h6 : 600 < n
  · have hrf := Below.refl w.heap.size w
    have hs' := Lib.hid hs; have hz' := Lib.hid hz; have hzl' := Lib.hid hzl; clear hs hz hzl
    go_enter Try.func8, Try.ntmps8
    go_wp2_with fail
    refine (awake_any _).mono ?_; intro e w3 h3; obtain ⟨rfl, hb3⟩ := h3; have hbw3 := hrf.trans (hb3.mono hrf.size); clear hb3; have hbw3' := Lib.hid hbw3; clear hbw3
    go_wp2_with fail
    go_ret
    exact ⟨rfl, hbw3'.out⟩
  obtain ⟨i0, hi, hz0, hz1, hz2⟩ := info_parts info8; have O0 := own_new w w.heap.size 5 1 0 #[] (Nat.le_refl _) (by unfold maxLen; omega) rfl; have hal0 := (Below.refl w.heap.size w).alloc (Nat.le_refl _) (.cells #[] 5); have hsz0 := hal0.size; have sa0 := hs.mono hal0; have hs' := Lib.hid hs; have hz' := Lib.hid hz; have hzl' := Lib.hid hzl; have O0' := Lib.hid O0; have hal0' := Lib.hid hal0; have sa0' := Lib.hid sa0; clear hs hz hzl O0 hal0 sa0
  go_enter Try.func8, Try.ntmps8
  go_upto_region 4 with (at_builtin; refine wpList_app rfl _ _ 30 rfl w.heap.size 5 i0 _ 1 1 Try.underlying30 hi hz0 hz1 hz2 rfl (by decide) _ 0 [] rfl O0'.out a n c _ rfl sa0'.out ints_one (by omega) (by decide) hsz0 ?_; intro a5 c5 w5 ob5 hb5 hg5; simp only [Nat.zero_add, List.nil_append] at ob5 ⊢; have Ob5 := Lib.hid ob5; have Hb5 := Lib.hid (hal0'.out.trans hb5); clear ob5 hb5 hg5)
  have R5 : RO w a5 n c5 z w5 := ⟨(Sl.of_own Ob5.out).1, fun x hx => by
    subst hx
    rcases Ob5.out.2 with ⟨h, _⟩ | ⟨g, cap, cur, h, _, hg, _⟩
    · cases h
    · injection h with h _ _
      injection h with h; rw [h]; exact (Array.getElem?_eq_some_iff.1 hg).1, Hb5.out⟩
  clear O0' hal0' sa0' Ob5 Hb5 hsz0; have hlq := len_Q (n + 1) z; have hokc := ok_C (n + 1) z; obtain ⟨T1, hT1⟩ : ∃ T, readAll takeQ (n + 1) z = T := ⟨_, rfl⟩; obtain ⟨T2, hT2⟩ : ∃ T, readAll takeC (n + 1) z = T := ⟨_, rfl⟩; obtain ⟨T3, hT3⟩ : ∃ T, rfS z = T := ⟨_, rfl⟩; obtain ⟨T4, hT4⟩ : ∃ T, rhS z = T := ⟨_, rfl⟩; rw [hT1] at hlq; rw [hT2] at hokc; have Q1 := readQuants_any a5 n c5 z w5 R5.s R5.l hz'.out (by omega); rw [hT1] at Q1; have R5' := Lib.hid R5; have hlq' := Lib.hid hlq; have hokc' := Lib.hid hokc; have hT1' := Lib.hid hT1; have hT2' := Lib.hid hT2; have hT3' := Lib.hid hT3; have hT4' := Lib.hid hT4; have Q1' := Lib.hid Q1; clear R5 hlq hokc hT1 hT2 hT3 hT4 Q1
  go_wp2_with fail
  refine Q1'.out.mono ?_; intro e w6 k6; obtain ⟨hb6, qa, qn, qc, rfl, ho6, hm6⟩ := k6; have R6 := R5'.out.late hb6; have Q2 := rreadQuants_any a n c z w6 (hs'.out.mono R6.b) hz'.out (by omega); rw [hT1'.out] at Q2; clear hb6; have R6' := Lib.hid R6; have ho6' := Lib.hid ho6; have hm6' := Lib.hid hm6; have Q2' := Lib.hid Q2; clear R6 ho6 hm6 Q2
  go_wp2_with fail
  refine Q2'.out.mono ?_; intro e w7 k7; obtain ⟨hb7, ra, rn, rc, rfl, ho7, hm7⟩ := k7; have R7 := R6'.out.late hb7; obtain rfl : qn = rn := hm6'.out.trans hm7.symm; have Q3 := rsameQ_eq qa ra qn qc rc T1.2 w7 ⟨((Sl.of_own ho6'.out).1).mono hb7, hlq'.out⟩ ⟨(Sl.of_own ho7).1, hlq'.out⟩; obtain ⟨E1, hE1⟩ : ∃ E, T1.1 = E := ⟨_, rfl⟩; rw [hE1]; have n1 : (E1 != E1) = false := by simp
  clear hb7; have R7' := Lib.hid R7; have ho7' := Lib.hid ho7; have hm7' := Lib.hid hm7; have Q3' := Lib.hid Q3; have hE1' := Lib.hid hE1; clear R7 ho7 hm7 Q3 hE1
  go_wp2_with fail
  refine Q3'.out.mono ?_; rintro e w8 ⟨rfl, hb8⟩; have R8 := R7'.out.late hb8; have C1 := readCoders_any a5 n c5 z w8 R8.s R8.l hz'.out (by omega); rw [hT2'.out] at C1; clear hb8 ho6' hm6' Q2' ho7' hm7' Q3' R5' R6' R7' Q1'; have R8' := Lib.hid R8; have C1' := Lib.hid C1; clear R8 C1
  go_wp2_with fail
  refine C1'.out.mono ?_; intro e w9 k9; obtain ⟨hb9, ca, cn, cc, ms, rfl, ho9, hms, hm9, hy9⟩ := k9; have R9 := R8'.out.late hb9; have C2 := rreadCoders_any a n c z w9 (hs'.out.mono R9.b) hz'.out (by omega); rw [hT2'.out] at C2; clear hb9; have R9' := Lib.hid R9; have ho9' := Lib.hid ho9; have hms' := Lib.hid hms; have hm9' := Lib.hid hm9; have hy9' := Lib.hid hy9; have C2' := Lib.hid C2; clear R9 ho9 hms hm9 hy9 C2
  go_wp2_with fail
  refine C2'.out.mono ?_; intro e wa ka; obtain ⟨hba, da, dn, dc, ns, rfl, hoa, hns, hma, hya⟩ := ka; have Ra := R9'.out.late hba; have hmn : ms.map (·.1) = ns.map (·.1) := hms'.out.trans hns.symm; have hln : ms.length = ns.length := by simpa using congrArg List.length hmn
  obtain rfl : cn = dn := hm9'.out.trans (hln.trans hma.symm); have hA := cdsB_of (hy9'.out.late hba) (own_later ho9'.out hba) (by rw [hms'.out]; exact hokc'.out); have hB := cdsB_of hya hoa (by rw [hns]; exact hokc'.out); have C3 := rsameC_eq ca da cn cc dc ms ns wa hA hB hmn; obtain ⟨E2, hE2⟩ : ∃ E, T2.1 = E := ⟨_, rfl⟩; rw [hE2]; have n2 : (E2 != E2) = false := by simp
  clear hba hA hB hmn hln; have Ra' := Lib.hid Ra; have hoa' := Lib.hid hoa; have hns' := Lib.hid hns; have hma' := Lib.hid hma; have hya' := Lib.hid hya; have C3' := Lib.hid C3; have hE2' := Lib.hid hE2; clear Ra hoa hns hma hya C3 hE2
  go_wp2_with fail
  refine C3'.out.mono ?_; rintro e wb ⟨rfl, hbb⟩; have Rb := Ra'.out.late hbb; have F1 := readFrame_any a5 n c5 z wb Rb.s Rb.l hz'.out (by omega); rw [hT3'.out] at F1; clear hbb ho9' hms' hm9' hy9' C2' hoa' hns' hma' hya' C3' R8' R9' Ra' C1' hokc'; obtain ⟨E3, fw, fh, l⟩ := T3; have Rb' := Lib.hid Rb; have F1' := Lib.hid F1; clear Rb F1
  go_wp2_with fail
  refine F1'.out.mono ?_; intro e wc kc; obtain ⟨hbc, fa, fn, fc, rfl, hoc, hmc⟩ := kc; simp only at hoc hmc ⊢; have bF := Blk.new wc 56 #[.int .i64 fw, .int .i64 fh, .slice fa fn fc]; have hal := (Below.refl wc.heap.size wc).alloc (Nat.le_refl _) (.cells #[.int .i64 fw, .int .i64 fh, .slice fa fn fc] 56); obtain ⟨wd, hwd⟩ : ∃ X, wc.alloc (.cells #[.int .i64 fw, .int .i64 fh, .slice fa fn fc] 56) = X := ⟨_, rfl⟩; rw [hwd] at bF hal; obtain ⟨gF, hgF⟩ : ∃ g, wc.heap.size = g := ⟨_, rfl⟩; rw [hgF] at bF; have Rd2 := (Rb'.out.late hbc).late hal; have hod := own_later hoc hal; have F2 := rreadFrame_any a n c z wd (hs'.out.mono Rd2.b) hz'.out (by omega); rw [hT3'.out] at F2; clear hbc hal hoc; have hmc' := Lib.hid hmc; have bF' := Lib.hid bF; have hwd' := Lib.hid hwd; have hgF' := Lib.hid hgF; have Rd2' := Lib.hid Rd2; have hod' := Lib.hid hod; have F2' := Lib.hid F2; clear hmc bF hwd hgF Rd2 hod F2
  go_upto_region 13 with fail
  try rw [hgF'.out]
  try rw [hwd'.out]
  go_wp2_with fail
  refine F2'.out.mono ?_; intro e we ke; obtain ⟨hbe, ga, gn, gc, rfl, hoe, hme⟩ := ke; simp only at hoe hme ⊢; obtain rfl : fn = gn := hmc'.out.trans hme.symm; have bG := Blk.new we 56 #[.int .i64 fw, .int .i64 fh, .slice ga fn gc]; have hal := (Below.refl we.heap.size we).alloc (Nat.le_refl _) (.cells #[.int .i64 fw, .int .i64 fh, .slice ga fn gc] 56); obtain ⟨wf, hwf⟩ : ∃ X, we.alloc (.cells #[.int .i64 fw, .int .i64 fh, .slice ga fn gc] 56) = X := ⟨_, rfl⟩; rw [hwf] at bG hal; obtain ⟨gG, hgG⟩ : ∃ g, we.heap.size = g := ⟨_, rfl⟩; rw [hgG] at bG; have hbf := hbe.trans (hal.mono hbe.size); have Rf := Rd2'.out.late hbf; have bF2 := bF'.out.late hbf; have j0 : wf.cell? ⟨gF, 0, none⟩ = some (.int .i64 fw) := bF2.cell rfl; have j1 : wf.cell? ⟨gF, 1, none⟩ = some (.int .i64 fh) := bF2.cell rfl; have j2 : wf.cell? ⟨gF, 2, none⟩ = some (.slice fa fn fc) := bF2.cell rfl; have k0 : wf.cell? ⟨gG, 0, none⟩ = some (.int .i64 fw) := bG.cell rfl; have k1 : wf.cell? ⟨gG, 1, none⟩ = some (.int .i64 fh) := bG.cell rfl; have k2 : wf.cell? ⟨gG, 2, none⟩ = some (.slice ga fn gc) := bG.cell rfl; have F3 := rsameF_eq fw fh fa ga fn fc gc l wf ⟨by rw [ints_flat]; exact ((Sl.of_own hod'.out).1).mono hbf, hmc'.out.symm⟩ ⟨by rw [ints_flat]; exact ((Sl.of_own hoe).1).mono hal, hmc'.out.symm⟩; have n3 : (E3 != E3) = false := by simp
  clear hbe hal hbf hoe hme bF2 bG; have hwf' := Lib.hid hwf; have hgG' := Lib.hid hgG; have Rf' := Lib.hid Rf; have F3' := Lib.hid F3; clear hwf hgG Rf F3
  go_upto_region 14 with fail
  try rw [hgG'.out]
  try rw [hwf'.out]
  go_wp2_with fail
  refine F3'.out.mono ?_; rintro e wg ⟨rfl, hbg⟩; have Rg := Rf'.out.late hbg; have H1 := readHead_any a5 n c5 z wg Rg.s hz'.out (by omega); rw [hT4'.out] at H1; clear hbg j0 j1 j2 k0 k1 k2 hmc' bF' hwd' hgF' Rd2' hod' F2' hwf' hgG' Rf' F3' Rb' F1'; obtain ⟨E4, us⟩ := T4; have Rg' := Lib.hid Rg; have H1' := Lib.hid H1; clear Rg H1
  go_wp2_with fail
  refine H1'.out.mono ?_; intro e wh kh; obtain ⟨hbh, ua, un, uc, rfl, hoh, hmh⟩ := kh; simp only at hoh hmh ⊢; have Rh := Rg'.out.late hbh; have H2 := rreadHead_any a n c z wh (hs'.out.mono Rh.b) hz'.out (by omega); rw [hT4'.out] at H2; clear hbh; have hoh' := Lib.hid hoh; have hmh' := Lib.hid hmh; have Rh' := Lib.hid Rh; have H2' := Lib.hid H2; clear hoh hmh Rh H2
  go_wp2_with fail
  refine H2'.out.mono ?_; intro e wi ki; obtain ⟨hbi, va, vn, vc, rfl, hoi, hmi⟩ := ki; simp only at hoi hmi ⊢; obtain rfl : un = vn := hmh'.out.trans hmi.symm; have Ri := Rh'.out.late hbi; have H3 := rsameU_eq ua va un uc vc us wi ⟨by rw [ints_flat]; exact ((Sl.of_own hoh'.out).1).mono hbi, hmh'.out.symm⟩ ⟨by rw [ints_flat]; exact (Sl.of_own hoi).1, hmh'.out.symm⟩; have n4 : (E4 != E4) = false := by simp
  clear hbi hoi hmi; have Ri' := Lib.hid Ri; have H3' := Lib.hid H3; clear Ri H3
  go_wp2_with fail
  refine H3'.out.mono ?_; rintro e wj ⟨rfl, hq⟩; have hbj := hq.below wj.heap.size; have Rj := Ri'.out.late (hq.below _); have I1 := readint_any a5 n c5 z wj Rj.s hz'.out; clear hbj hq hoh' hmh' Rh' H2' Ri' H3' Rg' H1'
  by_cases h2 : n = 2
  · subst h2
    obtain ⟨V, hV⟩ : ∃ V, intV z = V := ⟨_, rfl⟩; have hE0 : intE z = 0 := by unfold intE; rw [hzl'.out, if_neg (by omega), if_neg (by omega)]
    rw [hV, hE0] at I1; obtain ⟨b0, hb0⟩ : ∃ b, z.getD 0 0 = b := ⟨_, rfl⟩; obtain ⟨b1, hb1⟩ : ∃ b, z.getD 1 0 = b := ⟨_, rfl⟩
    have hVe : V = 256 * b0 + b1 := by
      rw [← hV]; unfold intV; rw [if_pos hzl'.out, hb0, hb1]
    have y0 := hz'.out.get 0; have y1 := hz'.out.get 1; rw [hb0] at y0; rw [hb1] at y1; obtain ⟨y0a, y0b⟩ := y0; obtain ⟨y1a, y1b⟩ := y1; have Rj' := Lib.hid Rj; have I1' := Lib.hid I1; have hV' := Lib.hid hV; have hb0' := Lib.hid hb0; have hb1' := Lib.hid hb1; have hE0' := Lib.hid hE0; clear Rj I1 hV hb0 hb1 hE0
    go_wp2_with fail
    refine I1'.out.mono ?_; rintro e wk ⟨rfl, hbk⟩; have Rk := Rj'.out.late hbk; clear hbk; obtain ⟨Ty, ff, hne, hbel, hsurj⟩ := later_worlds wk; have Rs := fun s => Rk.late (hbel s); have HQ := Lib.hid (hsurj _ ((Below.refl _ _).drew)); obtain ⟨bb, o, rfl, hbb, fc⟩ := hs'.out.at (show 0 < 2 by omega); have c0 : ∀ s, (ff s).cell? ⟨bb, o, none⟩ = some (.int .u8 b0) := fun s => ((Rs s).b.cell (p := ⟨bb, o, none⟩) hbb).trans (fc 0 _ (by rw [ints_get (by rw [hzl'.out]; omega), hb0'.out])); have c1 : ∀ s, (ff s).cell? ⟨bb, o + 1, none⟩ = some (.int .u8 b1) := fun s => ((Rs s).b.cell (p := ⟨bb, o + 1, none⟩) hbb).trans (fc 1 _ (by rw [ints_get (by rw [hzl'.out]; omega), hb1'.out])); have e1 := fun s => conv8 (Rs s).s; have e2 := fun s => conv8 (hs'.out.mono (Rs s).b); obtain ⟨j1, j2⟩ := str_same z; have x1 : IntKind.i64.wrap (256 * b0) = 256 * b0 := by rw [IntKind.wrap_i64]; omega
    have x2 : IntKind.i64.wrap (256 * b0 + b1) = 256 * b0 + b1 := by rw [IntKind.wrap_i64]; omega
    have x3 : (V == 256 * b0 + b1) = true := by simp [hVe]
    have AW := fun s => awake_any (ff s); clear fc hVe; have Rk' := Lib.hid Rk; have Rs' := Lib.hid Rs; have hbel' := Lib.hid hbel; have hsurj' := Lib.hid hsurj; have AW' := Lib.hid AW; clear Rk Rs hbel hsurj AW
    go_wp2_with fail
    refine wp_quiet_in ff (by kernel_rfl) (by kernel_rfl) HQ.out ?_
    iterate 27 (go_big_quiet_step (first
      | (go_at_call 34; refine (AW'.out _).mono ?_; rintro e w3 ⟨rfl, hb3⟩; exact ⟨rfl, hsurj'.out _ ((hbel'.out _).trans (hb3.mono (hbel'.out _).size))⟩)
      | rfl))
    refine wpQuiet_nil ?_; intro s; have hbz := Lib.hid (Rs'.out s).b; clear c0 c1 e1 e2 hne HQ
    go_wp2_with fail
    go_ret
    exact ⟨rfl, hbz.out⟩
  · have hV0 : intV z = 0 := by unfold intV; rw [hzl'.out, if_neg h2]
    have nb2 : ((n : Int) != 2) = true := by simp; omega
    rw [hV0] at I1
    by_cases h3 : n < 2
    · have hE : intE z = 3 := by unfold intE; rw [hzl'.out, if_pos h3]
      rw [hE] at I1; have d1 : decide ((n : Int) < 2) = true := by simp; omega
      have d2 : decide ((2 : Int) < n) = false := by simp; omega
      have Rj' := Lib.hid Rj; have I1' := Lib.hid I1; have hV0' := Lib.hid hV0; have hE' := Lib.hid hE; clear Rj I1 hV0 hE
      go_wp2_with fail
      refine I1'.out.mono ?_; rintro e wk ⟨rfl, hbk⟩; have Rk := Rj'.out.late hbk; have e1 := conv8 Rk.s; have e2 := conv8 (hs'.out.mono Rk.b); obtain ⟨j1, j2⟩ := str_same z; clear hbk; have Rk' := Lib.hid Rk; clear Rk
      go_wp2_with fail
      refine (awake_any _).mono ?_; intro e w3 h3; obtain ⟨rfl, hb3⟩ := h3; have hbw3 := Rk'.out.b.trans (hb3.mono Rk'.out.b.size); clear hb3; have hbw3' := Lib.hid hbw3; clear hbw3
      go_wp2_with fail
      go_ret
      exact ⟨rfl, hbw3'.out⟩
    · have hE : intE z = 2 := by unfold intE; rw [hzl'.out, if_neg h3, if_pos (by omega)]
      rw [hE] at I1; have d1 : decide ((n : Int) < 2) = false := by simp; omega
      have d2 : decide ((2 : Int) < n) = true := by simp; omega
      have Rj' := Lib.hid Rj; have I1' := Lib.hid I1; have hV0' := Lib.hid hV0; have hE' := Lib.hid hE; clear Rj I1 hV0 hE
      go_wp2_with fail
      refine I1'.out.mono ?_; rintro e wk ⟨rfl, hbk⟩; have Rk := Rj'.out.late hbk; have e1 := conv8 Rk.s; have e2 := conv8 (hs'.out.mono Rk.b); obtain ⟨j1, j2⟩ := str_same z; clear hbk; have Rk' := Lib.hid Rk; clear Rk
      go_wp2_with fail
      refine (awake_any _).mono ?_; intro e w3 h3; obtain ⟨rfl, hb3⟩ := h3; have hbw3 := Rk'.out.b.trans (hb3.mono Rk'.out.b.size); clear hb3; have hbw3' := Lib.hid hbw3; clear hbw3
      go_wp2_with fail
      go_ret
      exact ⟨rfl, hbw3'.out⟩
theorem read14_law2 {a : Option Addr} {n c : Nat} {z : List Int} {w : World} (hs : Sl w a n c 1 (ints .u8 z)) (hz : Byt z) :
    Calls Try.prog 8 #[.slice a n c] w fun e w' => e = .returned (.bool true) ∧ Below w.heap.size w w' := read14_law a n c z w hs hz
end Go.Proofs.Ytpjopeojeglogaa
