import Derived.Test.YtnhcmibngcmebaaReg12
import Derived.Test.YtnhcmibngcmebaaL5
/- Chapter 23: registry.Row. -/
namespace Go.Proofs.Ytnhcmibngcmebaa
open Go.RowKit Tt
set_option linter.unusedVariables false

set_option maxHeartbeats 4000000 in
theorem row_any (dir : Int) (a : Option Addr) (n c : Nat) (ts : List Tg) (w : World) (h : Ts w a n c ts) (hd : (Lit.int .i64 dir).wf = true) (hok : ∀ x ∈ ts, TgOk x) :
    Calls Try.prog 16 #[.int .i64 dir, .slice a n c] w fun e w' => e = .returned (.bool (rowS dir ts)) ∧ Below w.heap.size w w' := by
  have hm := h.max
  have hl := h.len
  have H := Lib.hid h
  have Hl := Lib.hid hl
  have Hd := Lib.hid hd
  have Hok := Lib.hid hok
  clear h hl hd hok
  obtain ⟨r, hr⟩ : ∃ r, rowS dir ts = r := ⟨_, rfl⟩
  rw [hr]
  have Hr := Lib.hid hr
  clear hr
  go_enter Try.func16, Try.ntmps16
  go_wp2_with fail
  refine (rules_any w).mono ?_
  rintro e w1 ⟨mb, rfl, hmb, hr1, hb1⟩
  have Hr1 := Lib.hid hr1
  have HB1 := Lib.hid hb1
  clear hr1 hb1 hmb
  go_wp2
  go_loopw [11] (fun i wr => ∃ k : Nat, k ≤ n ∧ i = .int .i64 k ∧ Hid (∀ j, j < k → tmayT dir (ts.getD j (0, 0, 0, [])) = true) ∧ Hid (∀ j, j + 1 < k → (ts.getD j (0, 0, 0, [])).1 < (ts.getD (j + 1) (0, 0, 0, [])).1) ∧ Hid (Below w1.heap.size w1 wr)) (fun i _ => n - (intOf i).toNat)
  case atStart => exact ⟨0, by omega, rfl, Lib.hid (fun j hj => by omega), Lib.hid (fun j hj => by omega), Lib.hid (Below.refl _ _)⟩
  case round =>
    obtain ⟨k, hk, rfl, hall, hris, hb⟩ := hrel
    have HBw := Lib.hid (HB1.out.trans (hb.out.mono HB1.out.size))
    by_cases hlt : k < n
    · obtain ⟨b, o, a1, n1, c1, rfl, hbx, e0, e1, e2, e3, hs⟩ := (H.out.mono HBw.out).at hlt
      obtain ⟨⟨tg, ty, ct, d⟩, hx⟩ : ∃ x, ts.getD k (0, 0, 0, []) = x := ⟨_, rfl⟩
      rw [hx] at e0 e1 e2 hs
      simp only at e0 e1 e2 hs
      have hokx : TgOk (tg, ty, ct, d) := hx ▸ Hok.out _ (tg_mem Hl.out hlt)
      have Hx := Lib.hid hx
      have Hokx := Lib.hid hokx
      have Hs := Lib.hid hs
      clear hx hokx hs
      obtain ⟨m, hmm⟩ : ∃ m, tmayS dir tg ty ct d = m := ⟨_, rfl⟩
      have Hmm : Hid (tmayS dir tg ty ct d = m) := Lib.hid hmm
      have Hmm2 : Hid (tmayT dir (tg, ty, ct, d) = m) := Lib.hid hmm
      clear hmm
      obtain ⟨w2, hw2⟩ : ∃ w2, w2 = wr.alloc (.cells #[.int .i64 tg, .int .i64 ty, .int .i64 ct, .slice a1 n1 c1] 26) := ⟨_, rfl⟩
      obtain ⟨g, hg⟩ : ∃ g, g = wr.heap.size := ⟨_, rfl⟩
      have hb2 : Below wr.heap.size wr w2 := by rw [hw2]; exact (Below.refl _ _).alloc (Nat.le_refl _) _
      have ht2 : TagAt w2 g tg ty ct a1 n1 c1 := by rw [hg, hw2]; exact TagAt.new ..
      have hb12 := hb.out.trans (hb2.mono hb.out.size)
      have Hb12 := Lib.hid hb12
      have Hs2 := Lib.hid (Hs.out.mono hb2)
      have Hr2 := Lib.hid (Hr1.out.mono hb12)
      have HQ : Hid (Below w2.heap.size w2 w2.drew) := Lib.hid ((Below.refl _ _).drew)
      obtain ⟨bd, hbd⟩ : ∃ bd, (decide (0 < k) && decide (tg ≤ (ts.getD (k - 1) (0, 0, 0, [])).1) || !m) = bd := ⟨_, rfl⟩
      have Hbd := Lib.hid hbd
      clear hbd
      have Hkn := Lib.hid hk
      have Hlt := Lib.hid hlt
      have HDW := Lib.hid Hd.out
      obtain ⟨ok1, ok4⟩ := Hokx.out
      have Htw := Lib.hid ok1
      have Hby := Lib.hid ok4
      clear ok1 ok4
      have HC : Hid (Calls Try.prog 39 #[.map (some mb), .int .i64 dir, .agg #[.int .i64 tg, .int .i64 ty, .int .i64 ct, .slice a1 n1 c1]] w2.drew fun e w' => e = .returned (.bool m) ∧ Below w2.drew.heap.size w2.drew w') :=
        Lib.hid (by have := may2_any mb dir tg ty ct a1 n1 c1 d w2.drew (Hr2.out.mono HQ.out) (Hs2.out.mono HQ.out) Hby.out Hd.out Htw.out; rwa [Hmm.out] at this)
      go_wp2_with fail
      rw [← hw2, ← hg]
      have hlt2 := ht2.lt
      obtain ⟨q0, q1, q2, q3, _⟩ := ht2
      have Hat : Hid (∀ j, j < n → w2.cell? ⟨b, o + j * 4, none⟩ = some (.int .i64 (ts.getD j (0, 0, 0, [])).1)) := Lib.hid (fun j hj => by
        obtain ⟨b', o', a2, n2, c2, hbb, _, y0, _⟩ := (H.out.mono (HB1.out.trans (Hb12.out.mono HB1.out.size))).at hj
        cases hbb
        exact y0)
      clear hw2 hg hb2 hb12 hb e0 e1 e2 e3
      go_cut [11, 35] from 11 to 36 (fun u v wx => u = .int .i64 k ∧ v = .bool bd ∧ Below w2.heap.size w2 wx)
      case first =>
        rcases Nat.eq_zero_or_pos k with hk0 | hk0
        · have f1 : decide ((0 : Int) < (k : Int)) = false := by simp; omega
          have f2 : decide (0 < k) = false := by simp; omega
          have hbm : bd = !m := by
            have f2 : decide (0 < k) = false := by simp; omega
            rw [← Hbd.out, f2]; simp
          have Hbm := Lib.hid hbm
          clear hk0 hbm hk hlt
          refine wp_quiet_tail 17 (by kernel_rfl) (by kernel_rfl) _ _ (by simp only [List.take_succ_cons, List.take_zero]; rfl) (by simp only [List.drop_succ_cons, List.drop_zero]; rfl) ?_
          iterate 17 (go_big_quiet_step (fail))
          refine wpQuiet_nil ?_
          have Hr3 := Lib.hid (Hr2.out.mono HQ.out)
          have Hs3 := Lib.hid (Hs2.out.mono HQ.out)
          go_wp2_with fail
          refine HC.out.mono ?_
          rintro e w3 ⟨rfl, hb3⟩
          have Hb3 := Lib.hid (HQ.out.trans hb3)
          clear hb3
          go_wp2_with fail
          go_meet
          exact ⟨rfl, by rw [Hbm.out], Hb3.out⟩
        · obtain ⟨k', hk'⟩ : ∃ k' : Nat, k' + 1 = k := ⟨k - 1, by omega⟩
          have f1 : decide ((0 : Int) < (k : Int)) = true := by simp; omega
          have f2 : decide (0 < k) = true := by simp; omega
          have wk : IntKind.i64.wrap ((k : Int) - 1) = (k' : Int) := by rw [IntKind.wrap_i64]; omega
          obtain ⟨tp, htp⟩ : ∃ tp, (ts.getD k' (0, 0, 0, [])).1 = tp := ⟨_, rfl⟩
          have q4 := Hat.out k' (by omega)
          rw [htp] at q4
          have hlk : (k' : Int) < (n : Int) := by omega
          have hlk' : k' < n := by omega
          have hbd : bd = (decide (tg ≤ tp) || !m) := by
            have f2 : decide (0 < k) = true := by simp; omega
            rw [← Hbd.out, f2, show k - 1 = k' by omega, htp]; simp
          have Hbd' := Lib.hid hbd
          clear hk0 hbd hk hlt hk' htp
          have hpn : (0 : Int) ≤ (k' : Int) := by omega
          by_cases hge : tg ≤ tp
          · have g1 : decide (tg ≤ tp) = true := by simpa using hge
            have hbt : bd = true := by rw [Hbd'.out, g1]; rfl
            have Hbt := Lib.hid hbt
            clear hbt
            refine wp_quiet_tail 17 (by kernel_rfl) (by kernel_rfl) _ _ (by simp only [List.take_succ_cons, List.take_zero]; rfl) (by simp only [List.drop_succ_cons, List.drop_zero]; rfl) ?_
            iterate 17 (go_big_quiet_step (fail))
            refine wpQuiet_nil ?_
            go_wp2_with fail
            go_meet
            exact ⟨rfl, by rw [Hbt.out], HQ.out⟩
          · have g1 : decide (tg ≤ tp) = false := by simpa using hge
            have hbt : bd = !m := by rw [Hbd'.out, g1]; rfl
            have Hbt := Lib.hid hbt
            clear hbt
            refine wp_quiet_tail 17 (by kernel_rfl) (by kernel_rfl) _ _ (by simp only [List.take_succ_cons, List.take_zero]; rfl) (by simp only [List.drop_succ_cons, List.drop_zero]; rfl) ?_
            iterate 17 (go_big_quiet_step (fail))
            refine wpQuiet_nil ?_
            go_wp2_with fail
            refine HC.out.mono ?_
            rintro e w3 ⟨rfl, hb3⟩
            have Hb3 := Lib.hid (HQ.out.trans hb3)
            clear hb3
            go_wp2_with fail
            go_meet
            exact ⟨rfl, by rw [Hbt.out], Hb3.out⟩
      case rest =>
        obtain ⟨rfl, rfl, hb4⟩ := hcut
        rename World => w4
        have HB4 : Hid (Below w1.heap.size w1 w4) := Lib.hid (Hb12.out.trans (hb4.mono Hb12.out.size))
        clear hb4
        cases bd
        · have hmt : m = true := by have := Hbd.out; simp at this; exact this.2
          have hris' : ∀ j, j + 1 < k + 1 → (ts.getD j (0, 0, 0, [])).1 < (ts.getD (j + 1) (0, 0, 0, [])).1 := fun j hj => by
            rcases Nat.lt_or_ge (j + 1) k with h1 | h1
            · exact hris.out j h1
            · obtain rfl : k = j + 1 := by omega
              have h2 := Hbd.out
              rw [Hx.out]
              simp at h2
              have := h2.1
              simpa using this
          have hall' : ∀ j, j < k + 1 → tmayT dir (ts.getD j (0, 0, 0, [])) = true := fun j hj => by
            rcases Nat.lt_or_ge j k with h1 | h1
            · exact hall.out j h1
            · obtain rfl : j = k := by omega
              rw [Hx.out, Hmm2.out, hmt]
          have Hris' := Lib.hid hris'
          have Hall' := Lib.hid hall'
          clear hris' hall' hmt
          go_wp2_with fail
          go_roundw
          case rel =>
            exact ⟨k + 1, by omega, by go_num, Hall', Hris', HB4⟩
          case measure =>
            simp [intOf]; omega
        · have hf : rowS dir ts = false := by
            unfold rowS
            cases hmc : m
            · rw [all_no Hl.out hlt (by rw [Hx.out, Hmm2.out, hmc])]; rfl
            · have h2 := Hbd.out
              rw [hmc] at h2
              simp at h2
              have hr0 : risesS ts = false := risesS_no (i := k - 1) (by rw [Hl.out]; omega) (by rw [show k - 1 + 1 = k by omega, Hx.out]; exact h2.2)
              rw [hr0]; simp
          obtain rfl : r = false := by rw [← Hr.out, hf]
          clear hf
          have HE := Lib.hid (HB1.out.trans (HB4.out.mono HB1.out.size))
          go_wp2
          go_ret
          exact ⟨rfl, HE.out⟩
    · have ha : ts.all (tmayT dir) = true := all_of Hl.out (fun j hj => hall.out j (by omega))
      have hri : risesS ts = true := risesS_iff.2 (fun i hi => hris.out i (by rw [Hl.out] at hi; omega))
      have hr2 : r = (decide (0 ≤ dir) && decide (dir ≤ 5)) := by rw [← Hr.out]; unfold rowS; rw [ha, hri]; simp
      have Hr2 := Lib.hid hr2
      clear ha hri hr2 hall hris
      by_cases t1 : 0 ≤ dir
      · by_cases t2 : dir < 6
        · obtain rfl : r = true := by rw [Hr2.out, decide_eq_true t1, decide_eq_true (show dir ≤ 5 by omega)]; rfl
          go_wp2
          go_ret
          exact ⟨rfl, HBw.out⟩
        · obtain rfl : r = false := by rw [Hr2.out, decide_eq_false (show ¬ dir ≤ 5 by omega)]; simp
          go_wp2
          go_ret
          exact ⟨ret_bool (by simp; try omega), HBw.out⟩
      · obtain rfl : r = false := by rw [Hr2.out, decide_eq_false t1]; simp
        go_wp2
        go_ret
        exact ⟨rfl, HBw.out⟩
end Go.Proofs.Ytnhcmibngcmebaa
