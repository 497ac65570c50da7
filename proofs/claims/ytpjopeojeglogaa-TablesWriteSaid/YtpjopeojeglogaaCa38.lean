/- Chapter 14: the law TablesWrite: the walk. -/
import Derived.Test.YtpjopeojeglogaaCa37
namespace Go.Proofs.Ytpjopeojeglogaa
open Go.RowKit Tt
set_option linter.unusedVariables false
set_option linter.unusedSimpArgs false

theorem CdsB.mono {w w' : World} {a : Option Addr} {n c : Nat} {ms : List CdM} (h : CdsB w a n c ms) (hb : Below w.heap.size w w') : CdsB w' a n c ms :=
  ⟨h.sl.mono hb, fun m hm => ⟨(h.ok m hm).len, (h.ok m hm).sl.mono hb, (h.ok m hm).wf⟩⟩
theorem str_same (x : List Int) : ((strOfNums x).toList == (strOfNums x).toList) = true ∧ ((strOfNums x).toList != (strOfNums x).toList) = false := by simp
/-- cells of the box of the argument -/
theorem all_cells {w : World} {g : Nat} {c0 c1 c2 c3 c4 c5 c6 : Value} (h : Blk w g 59 #[c0, c1, c2, c3, c4, c5, c6]) :
    w.cell? ⟨g, 0, none⟩ = some c0 ∧ w.cell? ⟨g, 1, none⟩ = some c1 ∧ w.cell? ⟨g, 2, none⟩ = some c2 ∧ w.cell? ⟨g, 3, none⟩ = some c3 ∧ w.cell? ⟨g, 4, none⟩ = some c4 ∧ w.cell? ⟨g, 5, none⟩ = some c5 ∧ w.cell? ⟨g, 6, none⟩ = some c6 :=
  ⟨h.cell rfl, h.cell rfl, h.cell rfl, h.cell rfl, h.cell rfl, h.cell rfl, h.cell rfl⟩
set_option maxRecDepth 100000 in
set_option maxHeartbeats 8000000 in
theorem writes_law (qa ca pa ua : Option Addr) (qn qc cn cc pn pc un uc : Nat) (fw fh iv : Int) (qs : List Qt64) (ms : List CdM) (cs : List Cmp4) (us : List Use3) (w : World)
    (hq : QsR w qa qn qc qs) (hc : CdsB w ca cn cc ms) (hp : StR cmpL 4 w pa pn pc cs) (hu : StR useL 3 w ua un uc us) (hpw : ∀ x ∈ cs, CmpWf x) (hfw : Wf fw) (hfh : Wf fh) (hiv : Wf iv) :
    Calls Try.prog 7 #[.agg #[.slice qa qn qc, .slice ca cn cc, .int .i64 fw, .int .i64 fh, .slice pa pn pc, .slice ua un uc, .int .i64 iv]] w (AwR w) := by
  have b1 := Blk.new w 59 #[.slice qa qn qc, .slice ca cn cc, .int .i64 fw, .int .i64 fh, .slice pa pn pc, .slice ua un uc, .int .i64 iv]; have hb1 := (Below.refl w.heap.size w).alloc (Nat.le_refl _) (.cells #[.slice qa qn qc, .slice ca cn cc, .int .i64 fw, .int .i64 fh, .slice pa pn pc, .slice ua un uc, .int .i64 iv] 59); obtain ⟨W1, hW1⟩ : ∃ W1, w.alloc (.cells #[.slice qa qn qc, .slice ca cn cc, .int .i64 fw, .int .i64 fh, .slice pa pn pc, .slice ua un uc, .int .i64 iv] 59) = W1 := ⟨_, rfl⟩; rw [hW1] at b1 hb1; have HL := large_any qa ca pa ua qn qc cn cc pn pc un uc fw fh iv ms W1 (hc.mono hb1); obtain ⟨k0, k1, k2, k3, k4, k5, k6⟩ := all_cells b1; have hq' := Lib.hid hq; have hc' := Lib.hid hc; have hp' := Lib.hid hp; have hu' := Lib.hid hu; have hpw' := Lib.hid hpw; have hfw' := Lib.hid hfw; have hfh' := Lib.hid hfh; have hiv' := Lib.hid hiv; have b1' := Lib.hid b1; have hb1' := Lib.hid hb1; have hW1' := Lib.hid hW1; have HL' := Lib.hid HL; clear hq hc hp hu hpw hfw hfh hiv b1 hb1 hW1 HL
  go_enter Try.func7, Try.ntmps7
  go_upto_region 1 with fail
  rw [hW1'.out]
  go_wp2_with fail
  refine HL'.out.mono ?_; intro e w2 h2; obtain ⟨bl, rfl, hb2, hbl⟩ := h2; have bk2 := b1'.out.late hb2; have hbw2 := hb1'.out.trans (hb2.mono hb1'.out.size); clear hb2 k0 k1 k2 k3 k4 k5 k6
  cases bl with
  | true =>
    have bk2' := Lib.hid bk2; have hbw2' := Lib.hid hbw2; have hbl' := Lib.hid hbl; clear bk2 hbw2 hbl
    go_wp2_with fail
    refine (awake_any _).mono ?_; intro e w3 h3; obtain ⟨rfl, hb3⟩ := h3; have hbw3 := hbw2'.out.trans (hb3.mono hbw2'.out.size); clear hb3; have hbw3' := Lib.hid hbw3; clear hbw3
    go_wp2_with fail
    go_ret
    exact ⟨rfl, hbw3'.out⟩
  | false =>
    have hbl2 := hbl rfl; clear hbl; obtain ⟨hm300, n1, n2, n3, n4⟩ := hbl2; have hcR : CdsR w ca cn cc ms := hc'.out.to hm300; clear hm300; obtain ⟨k0, k1, k2, k3, k4, k5, k6⟩ := all_cells bk2; have HQ := quants_any qa qn qc qs w2 (hq'.out.mono hbw2) (by omega); obtain ⟨R1, hR1⟩ : ∃ R, allW qOk qW qs = R := ⟨_, rfl⟩; rw [hR1] at HQ; have bk2' := Lib.hid bk2; have hbw2' := Lib.hid hbw2; have hcR' := Lib.hid hcR; have HQ' := Lib.hid HQ; have hR1' := Lib.hid hR1; clear bk2 hbw2 hcR HQ hR1
    go_wp2_with fail
    refine HQ'.out.mono ?_; intro e w3 h3; obtain ⟨a3, l3, c3, rfl, s3, hb3⟩ := pay_sl h3; clear h3 k0 k1 k2 k3 k4 k5 k6; have bk3 := bk2'.out.late hb3; have hbw3 := hbw2'.out.trans (hb3.mono hbw2'.out.size); obtain ⟨E1, hE1⟩ : ∃ E, (if R1.isSome = true then (0 : Int) else 1) = E := ⟨_, rfl⟩; rw [hE1]; obtain ⟨X1, hX1⟩ : ∃ X, R1.getD [] = X := ⟨_, rfl⟩; rw [hX1] at s3; have HQ2 := rquants_any qa qn qc qs w3 (hq'.out.mono hbw3) (by omega); rw [hR1'.out] at HQ2; obtain ⟨k0, k1, k2, k3, k4, k5, k6⟩ := all_cells bk3; clear hb3; have bk3' := Lib.hid bk3; have hbw3' := Lib.hid hbw3; have s3' := Lib.hid s3; have hE1' := Lib.hid hE1; have hX1' := Lib.hid hX1; have HQ2' := Lib.hid HQ2; clear bk3 hbw3 s3 hE1 hX1 HQ2
    go_wp2_with fail
    refine HQ2'.out.mono ?_; intro e w4 h4; obtain ⟨a4, l4, c4, rfl, s4, hb4⟩ := rpay_sl h4; clear h4 k0 k1 k2 k3 k4 k5 k6; have bk4 := bk3'.out.late hb4; have hbw4 := hbw3'.out.trans (hb4.mono hbw3'.out.size); rw [hX1'.out] at s4; have s34 := s3'.out.mono hb4; obtain ⟨p1, hp1⟩ : ∃ p, R1.isSome = p := ⟨_, rfl⟩; rw [hp1]; have hE1 := hE1'.out; rw [hp1] at hE1; have HC := coders_any ca cn cc ms w4 (hcR'.out.mono hbw4) (by omega); obtain ⟨R2, hR2⟩ : ∃ R, allW cOk cW (ms.map (·.1)) = R := ⟨_, rfl⟩; rw [hR2] at HC; obtain ⟨k0, k1, k2, k3, k4, k5, k6⟩ := all_cells bk4; clear hb4 hE1'; have bk4' := Lib.hid bk4; have hbw4' := Lib.hid hbw4; have s4' := Lib.hid s4; have s34' := Lib.hid s34; have hE1' := Lib.hid hE1; have hp1' := Lib.hid hp1; have HC' := Lib.hid HC; have hR2' := Lib.hid hR2; clear bk4 hbw4 s4 s34 hE1 hp1 HC hR2
    go_wp2_with fail
    refine HC'.out.mono ?_; intro e w5 h5; obtain ⟨a5, l5, c5, rfl, s5, hb5⟩ := pay_sl h5; clear h5 k0 k1 k2 k3 k4 k5 k6; have bk5 := bk4'.out.late hb5; have hbw5 := hbw4'.out.trans (hb5.mono hbw4'.out.size); have s35 := s34'.out.mono hb5; have s45 := s4'.out.mono hb5; obtain ⟨E2, hE2⟩ : ∃ E, (if R2.isSome = true then (0 : Int) else 1) = E := ⟨_, rfl⟩; rw [hE2]; obtain ⟨X2, hX2⟩ : ∃ X, R2.getD [] = X := ⟨_, rfl⟩; rw [hX2] at s5; have HC2 := rcoders_any ca cn cc ms w5 (hcR'.out.mono hbw5) (by omega); rw [hR2'.out] at HC2; obtain ⟨k0, k1, k2, k3, k4, k5, k6⟩ := all_cells bk5; clear hb5; have bk5' := Lib.hid bk5; have hbw5' := Lib.hid hbw5; have s5' := Lib.hid s5; have s35' := Lib.hid s35; have s45' := Lib.hid s45; have hE2' := Lib.hid hE2; have hX2' := Lib.hid hX2; have HC2' := Lib.hid HC2; clear bk5 hbw5 s5 s35 s45 hE2 hX2 HC2
    go_wp2_with fail
    refine HC2'.out.mono ?_; intro e w6 h6; obtain ⟨a6, l6, c6, rfl, s6, hb6⟩ := rpay_sl h6; clear h6 k0 k1 k2 k3 k4 k5 k6; have bk6 := bk5'.out.late hb6; have hbw6 := hbw5'.out.trans (hb6.mono hbw5'.out.size); rw [hX2'.out] at s6; have e1 := conv8 (s35'.out.mono hb6); have e2 := conv8 (s45'.out.mono hb6); have e3 := conv8 (s5'.out.mono hb6); have e4 := conv8 s6; obtain ⟨p2, hp2⟩ : ∃ p, R2.isSome = p := ⟨_, rfl⟩; rw [hp2]; have hE2 := hE2'.out; rw [hp2] at hE2; clear hb6 s6 hE2'; have bk6' := Lib.hid bk6; have hbw6' := Lib.hid hbw6; have hE2' := Lib.hid hE2; have hp2' := Lib.hid hp2; clear bk6 hbw6 hE2 hp2
    go_upto_region 7 with fail
    go_cut [77] from 11 (fun s77 wx => s77 = .bool false ∧ Hid (Blk wx w.heap.size 59 #[.slice qa qn qc, .slice ca cn cc, .int .i64 fw, .int .i64 fh, .slice pa pn pc, .slice ua un uc, .int .i64 iv]) ∧ Hid (Below w.heap.size w wx))
    case first =>
      obtain ⟨j1, j2⟩ := str_same X1; obtain ⟨j3, j4⟩ := str_same X2; have hE1 := hE1'.out; have hE2 := hE2'.out
      cases p1 with
      | false =>
        obtain rfl : E1 = 1 := hE1.symm
        cases p2 with
        | false =>
          obtain rfl : E2 = 1 := hE2.symm; clear hE1 hE2
          go_wp2_with fail
          go_meet
          case rel => exact ⟨rfl, bk6', hbw6'⟩
        | true =>
          obtain rfl : E2 = 0 := hE2.symm; clear hE1 hE2
          go_wp2_with fail
          go_meet
          case rel => exact ⟨rfl, bk6', hbw6'⟩
      | true =>
        obtain rfl : E1 = 0 := hE1.symm
        cases p2 with
        | false =>
          obtain rfl : E2 = 1 := hE2.symm; clear hE1 hE2
          go_wp2_with fail
          go_meet
          case rel => exact ⟨rfl, bk6', hbw6'⟩
        | true =>
          obtain rfl : E2 = 0 := hE2.symm; clear hE1 hE2
          go_wp2_with fail
          go_meet
          case rel => exact ⟨rfl, bk6', hbw6'⟩
    case rest =>
      clear e1 e2 e3 e4; obtain ⟨rfl, bk7', hbw7'⟩ := hcut; clear bk6' hbw6' hE2' hp2' hE1' hp1' bk5' hbw5' s5' s35' s45' hX2' HC2' bk4' hbw4' s4' s34' bk3' hbw3' s3' hX1' HQ2' bk2' hbw2' HQ' HC' HL' hR1' hR2' b1' hW1' hb1' hcR' hq' hc'; obtain ⟨k0, k1, k2, k3, k4, k5, k6⟩ := all_cells bk7'.out; have HF := frame_any fw fh pa pn pc cs wc (hp'.out.mono hbw7'.out) (by omega) hpw'.out hfw'.out hfh'.out; obtain ⟨R3, hR3⟩ : ∃ R, (if frmE fw fh cs = 0 then some (frmW fw fh cs) else none) = R := ⟨_, rfl⟩; rw [hR3] at HF; have HF' := Lib.hid HF; have hR3' := Lib.hid hR3; clear HF hR3
      go_wp2_with fail
      refine HF'.out.mono ?_; intro e w8 h8; obtain ⟨a8, l8, c8, rfl, s8, hb8⟩ := pay_sl h8; clear h8 k0 k1 k2 k3 k4 k5 k6; have bk8 := bk7'.out.late hb8; have hbw8 := hbw7'.out.trans (hb8.mono hbw7'.out.size); obtain ⟨E3, hE3⟩ : ∃ E, (if R3.isSome = true then (0 : Int) else 1) = E := ⟨_, rfl⟩; rw [hE3]; have HK := rcheck_any fw fh pa pn pc cs w8 (hp'.out.mono hbw8) (by omega); obtain ⟨K3, hK3⟩ : ∃ K, frmE fw fh cs = K := ⟨_, rfl⟩; rw [hK3] at HK; obtain ⟨k0, k1, k2, k3, k4, k5, k6⟩ := all_cells bk8; clear hb8; have bk8' := Lib.hid bk8; have hbw8' := Lib.hid hbw8; have s8' := Lib.hid s8; have hE3' := Lib.hid hE3; have HK' := Lib.hid HK; have hK3' := Lib.hid hK3; clear bk8 hbw8 s8 hE3 HK hK3
      go_wp2_with fail
      refine HK'.out.mono ?_; rintro e w9 ⟨rfl, hb9⟩; have bk9 := bk8'.out.late hb9; have hbw9 := hbw8'.out.trans (hb9.mono hbw8'.out.size); have s9 := s8'.out.mono hb9; clear hb9 k0 k1 k2 k3 k4 k5 k6; have bk9' := Lib.hid bk9; have hbw9' := Lib.hid hbw9; have s9' := Lib.hid s9; clear bk9 hbw9 s9
      go_upto_if 87 with fail
      go_cut [] from 11 (fun wx => Hid (Blk wx w.heap.size 59 #[.slice qa qn qc, .slice ca cn cc, .int .i64 fw, .int .i64 fh, .slice pa pn pc, .slice ua un uc, .int .i64 iv]) ∧ Hid (Below w.heap.size w wx))
      case first =>
        by_cases h0 : K3 = 0
        · subst h0
          have hRe : R3 = some (frmW fw fh cs) := by rw [← hR3'.out, if_pos hK3'.out]
          have s9b := s9'.out; have hE := hE3'.out; rw [hRe] at s9b hE; obtain rfl : E3 = 0 := hE.symm; obtain ⟨X, hX⟩ : ∃ X, frmW fw fh cs = X := ⟨_, rfl⟩; have s9b : Sl w9 a8 l8 c8 1 (ints .u8 X) := by rw [← hX]; exact s9b
          obtain ⟨wD, hwD⟩ : ∃ wD, w9.drew = wD := ⟨_, rfl⟩; have hd := (Below.refl w9.heap.size w9).drew; rw [hwD] at hd; have sD := s9b.mono hd; have bkD := bk9'.out.late hd; have hbwD := hbw9'.out.trans (hd.mono hbw9'.out.size); have HR := rframe_any fw fh pa pn pc cs wD (hp'.out.mono hbwD) hK3'.out; rw [hX] at HR
          have hcl : ∀ W, Below wD.heap.size wD W → (convert 30 9 (.slice a8 l8 c8)).run Try.prog W = .ok (.string (strOfNums X)) W ∧ W.cell? ⟨w.heap.size, 2, none⟩ = some (.int .i64 fw) ∧ W.cell? ⟨w.heap.size, 3, none⟩ = some (.int .i64 fh) ∧ W.cell? ⟨w.heap.size, 4, none⟩ = some (.slice pa pn pc) := fun W hW => by
            obtain ⟨_, _, g2, g3, g4, _⟩ := all_cells (bkD.late hW); exact ⟨conv8 (sD.mono hW), g2, g3, g4⟩
          obtain ⟨Ty, ff, hne, qq, hsurj⟩ := pr_worlds (fun W => (convert 30 9 (.slice a8 l8 c8)).run Try.prog W = .ok (.string (strOfNums X)) W ∧ W.cell? ⟨w.heap.size, 2, none⟩ = some (.int .i64 fw) ∧ W.cell? ⟨w.heap.size, 3, none⟩ = some (.int .i64 fh) ∧ W.cell? ⟨w.heap.size, 4, none⟩ = some (.slice pa pn pc)) wD (hcl wD (Below.refl _ _)); have q0 := fun s => (qq s).1; have q1 := fun s => (qq s).2.1; have q2 := fun s => (qq s).2.2.1; have q3 := fun s => (qq s).2.2.2; have HS := Lib.hid (hsurj _ (hcl wD (Below.refl _ _))); obtain ⟨j1, j2⟩ := str_same X; clear qq hE hRe s9b; have hd' := Lib.hid hd; have hwD' := Lib.hid hwD; have sD' := Lib.hid sD; have bkD' := Lib.hid bkD; have hbwD' := Lib.hid hbwD; have HR' := Lib.hid HR; have hcl' := Lib.hid hcl; have hsurj' := Lib.hid hsurj; have hX' := Lib.hid hX; clear hd hwD sD bkD hbwD HR hcl hsurj hX
          go_wp2_with fail
          refine held_begin (S := fun W => ∃ s, W = ff s) (by kernel_rfl) 11 rfl ?_; rw [hwD'.out]; refine held_take [0, 1, 2, 3] 7 (by kernel_rfl) (fun d _ _ _ _ h => by cases d <;> exact h) (by kernel_rfl) (by kernel_rfl) (by kernel_rfl) HS.out ?_; simp only [pickL, List.map_cons, List.map_nil, List.getD_cons_succ, List.getD_cons_zero]
          iterate 4 (go_big_quiet_step (fail))
          refine wpQuiet_nil ?_; refine held_one 4 6 (by kernel_rfl) (by kernel_rfl) ?_; simp only [pickL, List.map_cons, List.map_nil, List.getD_cons_succ, List.getD_cons_zero]; clear q0 q1 q2 q3 hne
          go_wp2_with fail
          refine HR'.out.mono ?_; rintro e w10 ⟨aA, lA, cA, rfl, hoA, hbA⟩; have bkA := bkD'.out.late hbA; have hbwA := hbwD'.out.trans (hbA.mono hbwD'.out.size); have eA := conv8 (Sl.of_own hoA).1; have HSA := Lib.hid (hsurj'.out _ (hcl'.out _ hbA)); clear hbA hoA; have bkA' := Lib.hid bkA; have hbwA' := Lib.hid hbwA; clear bkA hbwA
          go_wp2_with fail
          first | refine Mid.mk ⟨HSA.out, ?_⟩ | refine Mid.mk ?_
          refine held_one 5 5 (by kernel_rfl) (by kernel_rfl) ?_; simp only [pickL, List.map_cons, List.map_nil, List.getD_cons_succ, List.getD_cons_zero]
          go_wp2_with fail
          first | refine Mid.mk ⟨HSA.out, ?_⟩ | refine Mid.mk ?_
          refine held_one 6 4 (by kernel_rfl) (by kernel_rfl) ?_; simp only [pickL, List.map_cons, List.map_nil, List.getD_cons_succ, List.getD_cons_zero]
          go_wp2_with fail
          first | refine Mid.mk ⟨HSA.out, ?_⟩ | refine Mid.mk ?_
          refine held_one 7 3 (by kernel_rfl) (by kernel_rfl) ?_; simp only [pickL, List.map_cons, List.map_nil, List.getD_cons_succ, List.getD_cons_zero]
          go_wp2_with fail
          first | refine Mid.mk ⟨HSA.out, ?_⟩ | refine Mid.mk ?_
          refine held_one 8 2 (by kernel_rfl) (by kernel_rfl) ?_; simp only [pickL, List.map_cons, List.map_nil, List.getD_cons_succ, List.getD_cons_zero]
          go_wp2_with fail
          first | refine Mid.mk ⟨HSA.out, ?_⟩ | refine Mid.mk ?_
          refine held_one 9 1 (by kernel_rfl) (by kernel_rfl) ?_; simp only [pickL, List.map_cons, List.map_nil, List.getD_cons_succ, List.getD_cons_zero]
          go_wp2_with fail
          first | refine Mid.mk ⟨HSA.out, ?_⟩ | refine Mid.mk ?_
          refine held_one 10 0 (by kernel_rfl) (by kernel_rfl) ?_; simp only [pickL, List.map_cons, List.map_nil, List.getD_cons_succ, List.getD_cons_zero]
          go_wp2_with fail
          first | refine Mid.mk ⟨HSA.out, ?_⟩ | refine Mid.mk ?_
          refine held_last (by kernel_rfl) ?_
          go_wp2_with fail
          go_meet
          case rel => exact ⟨bkA', hbwA'⟩
        · have hRe : R3 = none := by rw [← hR3'.out, if_neg (by rw [hK3'.out]; exact h0)]
          have s9b := s9'.out; have hE := hE3'.out; rw [hRe] at s9b hE; obtain rfl : E3 = 1 := hE.symm; obtain rfl : l8 = 0 := by have h : (0 : Nat) = l8 := s9b.ilen; exact h.symm
          have hnb : (K3 != 0) = true := by simpa using h0
          clear h0 hE hRe s9b
          go_wp2_with fail
          go_meet
          case rel => exact ⟨bk9', hbw9'⟩
      case rest =>
        obtain ⟨bk7', hbw7'⟩ := hcut; clear bk9' hbw9' s9' HK' hK3' hE3' s8' hbw8' bk8' HF' hR3' hpw' hfw' hfh' hp'; obtain ⟨k0, k1, k2, k3, k4, k5, k6⟩ := all_cells bk7'.out; have HF := head_any ua un uc us wc (hu'.out.mono hbw7'.out) (by omega); obtain ⟨R3, hR3⟩ : ∃ R, (if usesOk us = true then some (headW us) else none) = R := ⟨_, rfl⟩; rw [hR3] at HF; have HF' := Lib.hid HF; have hR3' := Lib.hid hR3; clear HF hR3
        go_wp2_with fail
        refine HF'.out.mono ?_; intro e w8 h8; obtain ⟨a8, l8, c8, rfl, s8, hb8⟩ := pay_sl h8; clear h8 k0 k1 k2 k3 k4 k5 k6; have bk8 := bk7'.out.late hb8; have hbw8 := hbw7'.out.trans (hb8.mono hbw7'.out.size); obtain ⟨E3, hE3⟩ : ∃ E, (if R3.isSome = true then (0 : Int) else 1) = E := ⟨_, rfl⟩; rw [hE3]; have HK := ruses_any ua un uc us w8 (hu'.out.mono hbw8) (by omega); obtain ⟨K3, hK3⟩ : ∃ K, usesOk us = K := ⟨_, rfl⟩; rw [hK3] at HK; obtain ⟨k0, k1, k2, k3, k4, k5, k6⟩ := all_cells bk8; clear hb8; have bk8' := Lib.hid bk8; have hbw8' := Lib.hid hbw8; have s8' := Lib.hid s8; have hE3' := Lib.hid hE3; have HK' := Lib.hid HK; have hK3' := Lib.hid hK3; clear bk8 hbw8 s8 hE3 HK hK3
        go_wp2_with fail
        refine HK'.out.mono ?_; rintro e w9 ⟨rfl, hb9⟩; have bk9 := bk8'.out.late hb9; have hbw9 := hbw8'.out.trans (hb9.mono hbw8'.out.size); have s9 := s8'.out.mono hb9; clear hb9 k0 k1 k2 k3 k4 k5 k6; have bk9' := Lib.hid bk9; have hbw9' := Lib.hid hbw9; have s9' := Lib.hid s9; clear bk9 hbw9 s9
        go_upto_if 115 with fail
        go_cut [] from 11 (fun wx => Hid (Blk wx w.heap.size 59 #[.slice qa qn qc, .slice ca cn cc, .int .i64 fw, .int .i64 fh, .slice pa pn pc, .slice ua un uc, .int .i64 iv]) ∧ Hid (Below w.heap.size w wx))
        case first =>
          cases K3 with
          | true =>
            have hRe : R3 = some (headW us) := by rw [← hR3'.out, if_pos hK3'.out]
            have s9b := s9'.out; have hE := hE3'.out; rw [hRe] at s9b hE; obtain rfl : E3 = 0 := hE.symm; obtain ⟨X, hX⟩ : ∃ X, headW us = X := ⟨_, rfl⟩; have s9b : Sl w9 a8 l8 c8 1 (ints .u8 X) := by rw [← hX]; exact s9b
            obtain ⟨wD, hwD⟩ : ∃ wD, w9.drew = wD := ⟨_, rfl⟩; have hd := (Below.refl w9.heap.size w9).drew; rw [hwD] at hd; have sD := s9b.mono hd; have bkD := bk9'.out.late hd; have hbwD := hbw9'.out.trans (hd.mono hbw9'.out.size); have HR := rhead_any ua un uc us wD (hu'.out.mono hbwD) hK3'.out; rw [hX] at HR
            have hcl : ∀ W, Below wD.heap.size wD W → (convert 30 9 (.slice a8 l8 c8)).run Try.prog W = .ok (.string (strOfNums X)) W ∧ W.cell? ⟨w.heap.size, 5, none⟩ = some (.slice ua un uc) := fun W hW => by
              obtain ⟨_, _, _, _, _, g5, _⟩ := all_cells (bkD.late hW); exact ⟨conv8 (sD.mono hW), g5⟩
            obtain ⟨Ty, ff, hne, qq, hsurj⟩ := pr_worlds (fun W => (convert 30 9 (.slice a8 l8 c8)).run Try.prog W = .ok (.string (strOfNums X)) W ∧ W.cell? ⟨w.heap.size, 5, none⟩ = some (.slice ua un uc)) wD (hcl wD (Below.refl _ _)); have q0 := fun s => (qq s).1; have q1 := fun s => (qq s).2; have HS := Lib.hid (hsurj _ (hcl wD (Below.refl _ _))); obtain ⟨j1, j2⟩ := str_same X; clear qq hE hRe s9b; have hd' := Lib.hid hd; have hwD' := Lib.hid hwD; have sD' := Lib.hid sD; have bkD' := Lib.hid bkD; have hbwD' := Lib.hid hbwD; have HR' := Lib.hid HR; have hcl' := Lib.hid hcl; have hsurj' := Lib.hid hsurj; have hX' := Lib.hid hX; clear hd hwD sD bkD hbwD HR hcl hsurj hX
            go_wp2_with fail
            refine held_begin (S := fun W => ∃ s, W = ff s) (by kernel_rfl) 11 rfl ?_; rw [hwD'.out]; refine held_take [0, 1, 2, 3] 7 (by kernel_rfl) (fun d _ _ _ _ h => by cases d <;> exact h) (by kernel_rfl) (by kernel_rfl) (by kernel_rfl) HS.out ?_; simp only [pickL, List.map_cons, List.map_nil, List.getD_cons_succ, List.getD_cons_zero]
            iterate 4 (go_big_quiet_step (fail))
            refine wpQuiet_nil ?_; refine held_one 4 6 (by kernel_rfl) (by kernel_rfl) ?_; simp only [pickL, List.map_cons, List.map_nil, List.getD_cons_succ, List.getD_cons_zero]; clear q0 q1 hne
            go_wp2_with fail
            refine HR'.out.mono ?_; rintro e w10 ⟨aA, lA, cA, rfl, hoA, hbA⟩; have bkA := bkD'.out.late hbA; have hbwA := hbwD'.out.trans (hbA.mono hbwD'.out.size); have eA := conv8 (Sl.of_own hoA).1; have HSA := Lib.hid (hsurj'.out _ (hcl'.out _ hbA)); clear hbA hoA; have bkA' := Lib.hid bkA; have hbwA' := Lib.hid hbwA; clear bkA hbwA
            go_wp2_with fail
            first | refine Mid.mk ⟨HSA.out, ?_⟩ | refine Mid.mk ?_
            refine held_one 5 5 (by kernel_rfl) (by kernel_rfl) ?_; simp only [pickL, List.map_cons, List.map_nil, List.getD_cons_succ, List.getD_cons_zero]
            go_wp2_with fail
            first | refine Mid.mk ⟨HSA.out, ?_⟩ | refine Mid.mk ?_
            refine held_one 6 4 (by kernel_rfl) (by kernel_rfl) ?_; simp only [pickL, List.map_cons, List.map_nil, List.getD_cons_succ, List.getD_cons_zero]
            go_wp2_with fail
            first | refine Mid.mk ⟨HSA.out, ?_⟩ | refine Mid.mk ?_
            refine held_one 7 3 (by kernel_rfl) (by kernel_rfl) ?_; simp only [pickL, List.map_cons, List.map_nil, List.getD_cons_succ, List.getD_cons_zero]
            go_wp2_with fail
            first | refine Mid.mk ⟨HSA.out, ?_⟩ | refine Mid.mk ?_
            refine held_one 8 2 (by kernel_rfl) (by kernel_rfl) ?_; simp only [pickL, List.map_cons, List.map_nil, List.getD_cons_succ, List.getD_cons_zero]
            go_wp2_with fail
            first | refine Mid.mk ⟨HSA.out, ?_⟩ | refine Mid.mk ?_
            refine held_one 9 1 (by kernel_rfl) (by kernel_rfl) ?_; simp only [pickL, List.map_cons, List.map_nil, List.getD_cons_succ, List.getD_cons_zero]
            go_wp2_with fail
            first | refine Mid.mk ⟨HSA.out, ?_⟩ | refine Mid.mk ?_
            refine held_one 10 0 (by kernel_rfl) (by kernel_rfl) ?_; simp only [pickL, List.map_cons, List.map_nil, List.getD_cons_succ, List.getD_cons_zero]
            go_wp2_with fail
            first | refine Mid.mk ⟨HSA.out, ?_⟩ | refine Mid.mk ?_
            refine held_last (by kernel_rfl) ?_
            go_wp2_with fail
            go_meet
            case rel => exact ⟨bkA', hbwA'⟩
          | false =>
            have hRe : R3 = none := by rw [← hR3'.out, if_neg (by rw [hK3'.out]; decide)]
            have s9b := s9'.out; have hE := hE3'.out; rw [hRe] at s9b hE; obtain rfl : E3 = 1 := hE.symm; obtain rfl : l8 = 0 := by have h : (0 : Nat) = l8 := s9b.ilen; exact h.symm
            clear hE hRe s9b
            go_wp2_with fail
            go_meet
            case rel => exact ⟨bk9', hbw9'⟩
        case rest =>
          obtain ⟨bk7', hbw7'⟩ := hcut; clear bk9' hbw9' s9' HK' hK3' hE3' s8' hbw8' bk8' HF' hR3' hu'; obtain ⟨k0, k1, k2, k3, k4, k5, k6⟩ := all_cells bk7'.out; have HF := interval_any iv wc hiv'.out; obtain ⟨R3, hR3⟩ : ∃ R, (if 0 ≤ iv ∧ iv ≤ 65535 then some [iv / 256, iv % 256] else none) = R := ⟨_, rfl⟩; rw [hR3] at HF; have HF' := Lib.hid HF; have hR3' := Lib.hid hR3; clear HF hR3
          go_wp2_with fail
          refine HF'.out.mono ?_; intro e w8 h8; obtain ⟨a8, l8, c8, rfl, s8, hb8⟩ := pay_sl h8; clear h8 k0 k1 k2 k3 k4 k5 k6; have bk8 := bk7'.out.late hb8; have hbw8 := hbw7'.out.trans (hb8.mono hbw7'.out.size); obtain ⟨E3, hE3⟩ : ∃ E, (if R3.isSome = true then (0 : Int) else 1) = E := ⟨_, rfl⟩; rw [hE3]; obtain ⟨_, _, _, _, _, _, k6⟩ := all_cells bk8
          by_cases hr : 0 ≤ iv ∧ iv ≤ 65535
          · have hRe : R3 = some [iv / 256, iv % 256] := by rw [← hR3'.out, if_pos hr]
            rw [hRe] at s8 hE3; obtain rfl : E3 = 0 := hE3.symm; obtain ⟨X, hX⟩ : ∃ X, [iv / 256, iv % 256] = X := ⟨_, rfl⟩; have s8 : Sl w8 a8 l8 c8 1 (ints .u8 X) := by rw [← hX]; exact s8
            have sN : Sl (w8.alloc (.cells #[.int .u8 (iv / 256), .int .u8 (iv % 256)] 5)) (some ⟨w8.heap.size, 0, none⟩) 2 2 1 (ints .u8 X) := by
              rw [← hX]; exact Sl.new w8 5 1 2 #[.int .u8 (iv / 256), .int .u8 (iv % 256)] (0, 0) (by omega) rfl
            have e1 := conv8 s8; have e2 := conv8 sN; have hal := (Below.refl w8.heap.size w8).alloc (Nat.le_refl _) (.cells #[.int .u8 (iv / 256), .int .u8 (iv % 256)] 5); have hbN := hbw8.trans (hal.mono hbw8.size); obtain ⟨h0, h1⟩ := hr; obtain ⟨v1, v2, v3, v4, v5⟩ := quo256 (x := iv) h0 (by omega); obtain ⟨j1, j2⟩ := str_same X; clear hb8 hE3 hRe s8 sN hal; have bk8' := Lib.hid bk8; have hbw8' := Lib.hid hbw8; have hbN' := Lib.hid hbN; have hX' := Lib.hid hX; clear bk8 hbw8 hbN hX
            go_wp2_with fail
            refine (awake_any _).mono ?_; intro e w3 h3; obtain ⟨rfl, hb3⟩ := h3; have hbw3 := hbN'.out.trans (hb3.mono hbN'.out.size); clear hb3; have hbw3' := Lib.hid hbw3; clear hbw3
            go_wp2_with fail
            go_ret
            exact ⟨rfl, hbw3'.out⟩
          · have hRe : R3 = none := by rw [← hR3'.out, if_neg hr]
            rw [hRe] at s8 hE3; obtain rfl : E3 = 1 := hE3.symm; obtain rfl : l8 = 0 := by have h : (0 : Nat) = l8 := s8.ilen; exact h.symm
            clear hb8 hE3 hRe s8
            by_cases c1 : iv < 0
            · have bk8' := Lib.hid bk8
              have hbw8' := Lib.hid hbw8; have hr' := Lib.hid hr; clear bk8 hbw8 hr
              go_wp2_with fail
              refine (awake_any _).mono ?_; intro e w3 h3; obtain ⟨rfl, hb3⟩ := h3; have hbw3 := hbw8'.out.trans (hb3.mono hbw8'.out.size); clear hb3; have hbw3' := Lib.hid hbw3; clear hbw3
              go_wp2_with fail
              go_ret
              exact ⟨rfl, hbw3'.out⟩
            · have c2 : 65535 < iv := by omega
              have bk8' := Lib.hid bk8; have hbw8' := Lib.hid hbw8; have hr' := Lib.hid hr; clear bk8 hbw8 hr
              go_wp2_with fail
              refine (awake_any _).mono ?_; intro e w3 h3; obtain ⟨rfl, hb3⟩ := h3; have hbw3 := hbw8'.out.trans (hb3.mono hbw8'.out.size); clear hb3; have hbw3' := Lib.hid hbw3; clear hbw3
              go_wp2_with fail
              go_ret
              exact ⟨rfl, hbw3'.out⟩
end Go.Proofs.Ytpjopeojeglogaa
