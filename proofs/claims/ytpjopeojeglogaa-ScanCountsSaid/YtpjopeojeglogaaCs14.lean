/- Chapter 11: a block told by symbols: the program. | Chapter 12: a scan as it lies in memory; which scans may be (plain). -/
import Derived.Test.YtpjopeojeglogaaCs13
namespace Go.Proofs.Ytpjopeojeglogaa
open Go.RowKit Tt
set_option linter.unusedVariables false
set_option linter.unusedSimpArgs false

theorem size_ok {v : Int} (h : ¬ sizeS v < 0) : -32768 < v ∧ v < 32768 := by
  rcases sizeS_cases v with ⟨h1, _⟩ | ⟨_, h2⟩
  · omega
  · have := bitLen_le.1 h2
    omega
/-- the program's coder stands for what is told so far -/
def CRel (s : Option (List Cod × Nat)) (o : List Cod) (z : Nat) (f : Bool) : Prop := (f = true ∧ s = none) ∨ (f = false ∧ s = some (o, z))
theorem CRel.zero {s : Option (List Cod × Nat)} {o : List Cod} {z : Nat} {f : Bool} (h : CRel s o z f) : CRel (acStep s 0) o (z + 1) f := by
  rcases h with ⟨rfl, rfl⟩ | ⟨rfl, rfl⟩
  · exact .inl ⟨rfl, rfl⟩
  · exact .inr ⟨rfl, by simp [acStep]⟩
theorem CRel.ok {s : Option (List Cod × Nat)} {o : List Cod} {z : Nat} {f : Bool} {v : Int} (h : CRel s o z f) (hv : v ≠ 0) (hb : bitLen v.natAbs ≤ 10) : CRel (acStep s v) (o ++ List.replicate (z / 16) (1, 240, 0, 0) ++ [codOf 1 (z % 16 : Nat) v]) 0 f := by
  rcases h with ⟨rfl, rfl⟩ | ⟨rfl, rfl⟩
  · exact .inl ⟨rfl, rfl⟩
  · exact .inr ⟨rfl, by simp [acStep, hv, hb]⟩
theorem CRel.bad {s : Option (List Cod × Nat)} {o : List Cod} {z : Nat} {f : Bool} {v : Int} (h : CRel s o z f) (hv : v ≠ 0) (hb : ¬ bitLen v.natAbs ≤ 10) : CRel (acStep s v) o z true := by
  left
  refine ⟨rfl, ?_⟩
  rcases h with ⟨rfl, rfl⟩ | ⟨rfl, rfl⟩
  · rfl
  · simp [acStep, hv, hb]
set_option maxRecDepth 20000 in
set_option maxHeartbeats 400000 in
theorem ccode_any (b : List Int) (A : Array Value) (hA : (ints .i64 b).toArray = A) (last : Int) (w : World) (ht : b.length = 64) (hw : ∀ x ∈ b, (Lit.int .i64 x).wf = true) (hl : (Lit.int .i64 last).wf = true) :
    Calls Try.prog 146 #[.agg A, .int .i64 last] w fun e w' => (codeB b last = none ∧ e = .returned (.tuple #[.slice none 0 0, .int .i64 7]) ∨ ∃ l a c, codeB b last = some l ∧ e = .returned (.tuple #[.slice a l.length c, .int .i64 0]) ∧ w'.ownsRow w.heap.size 133 4 (.slice a l.length c) l.length (codC l)) ∧ Below w.heap.size w w' := by
  obtain ⟨i1, hi, hz0, hz1, hz2⟩ := info_parts infoCod; have hib : (ints .i64 b).length = 64 := by rw [ints_len, ht]
  have b1 := Blk.new w 129 A; have hb1 := (Below.refl w.heap.size w).alloc (Nat.le_refl _) (.cells A 129); obtain ⟨W1, hW1⟩ : ∃ W, w.alloc (.cells A 129) = W := ⟨_, rfl⟩; rw [hW1] at b1 hb1; have HC : ∀ W, Blk W w.heap.size 129 A → ∀ j v, (ints .i64 b)[j]? = some v → W.cell? ⟨w.heap.size, 0 + j, none⟩ = some v := fun W hb j v h => hb.cell (by rw [← hA, Nat.zero_add, List.getElem?_toArray]; exact h); obtain ⟨v0, hv0⟩ : ∃ x, b.getD 0 0 = x := ⟨_, rfl⟩; have h00 : (ints .i64 b)[0]? = some (.int .i64 v0) := by rw [← hv0]; exact ints_get (by omega)
  have H0 : ∀ W, Blk W w.heap.size 129 A → W.cell? ⟨w.heap.size, 0, none⟩ = some (.int .i64 v0) := fun W hb => HC W hb 0 _ h00; have hwf0 := hw v0 (by rw [← hv0]; exact get_mem (by omega)); have hS1 := csize_any last W1 hl; have hS2 := fun W => csize_any v0 W hwf0; have hcod : codeB b last = if sizeS last < 0 ∨ sizeS v0 < 0 ∨ 11 < bitLen (v0 - last).natAbs then none else (acFrom ((toZ b).drop 1) (some ([codOf 0 0 (v0 - last)], 0))).map acEnd := by unfold codeB; rw [hv0]
  have k0 := H0 W1 b1; have b1' := Lib.hid b1; have hb1' := Lib.hid hb1; have HC' := Lib.hid HC; have H0' := Lib.hid H0; have hib' := Lib.hid hib; have hW1' := Lib.hid hW1; have hv0' := Lib.hid hv0; have h00' := Lib.hid h00; have hS1' := Lib.hid hS1; have hS2' := Lib.hid hS2; have hcod' := Lib.hid hcod; have hA' := Lib.hid hA; have hw' := Lib.hid hw; clear b1 hb1 HC H0 hib hW1 hv0 h00 hS1 hS2 hcod hA hw
  go_enter Try.func146, Try.ntmps146
  go_upto_region 1 with fail
  rw [hW1'.out]
  by_cases hs1 : sizeS last < 0
  · have hc : codeB b last = none := by rw [hcod'.out, if_pos (.inl hs1)]
    obtain ⟨m, hm⟩ : ∃ m, sizeS last = m := ⟨_, rfl⟩; have hS3 := hS1'.out; rw [hm] at hS3 hs1; have hS3' := Lib.hid hS3; have hc' := Lib.hid hc; have hm' := Lib.hid hm; clear hS3 hc hm
    go_wp2_with fail
    refine hS3'.out.mono ?_; rintro e w1 ⟨rfl, hq1⟩; have hd := hb1'.out.trans ((hq1.below _).mono hb1'.out.size); have hq1' := Lib.hid hq1; have hd' := Lib.hid hd; clear hq1 hd
    go_wp2
    go_ret2
    exact ⟨.inl ⟨hc'.out, rfl⟩, hd'.out⟩
  · by_cases hs2 : sizeS v0 < 0
    · have hc : codeB b last = none := by rw [hcod'.out, if_pos (.inr (.inl hs2))]
      obtain ⟨m, hm⟩ : ∃ m, sizeS last = m := ⟨_, rfl⟩; obtain ⟨m2, hm2⟩ : ∃ m, sizeS v0 = m := ⟨_, rfl⟩; have hS3 := hS1'.out; have hS4 := hS2'.out; rw [hm] at hS3 hs1; rw [hm2] at hS4 hs2; have hS3' := Lib.hid hS3; have hS4' := Lib.hid hS4; have hc' := Lib.hid hc; have hm' := Lib.hid hm; have hm2' := Lib.hid hm2; clear hS3 hS4 hc hm hm2
      go_wp2_with fail
      refine hS3'.out.mono ?_; rintro e w1 ⟨rfl, hq1⟩; have k1 := H0'.out w1 (b1'.out.late (hq1.below _)); have hd := hb1'.out.trans ((hq1.below _).mono hb1'.out.size); have hq1' := Lib.hid hq1; have hd' := Lib.hid hd; clear hq1 hd
      go_wp2_with fail
      refine (hS4'.out w1).mono ?_; rintro e w2 ⟨rfl, hq2⟩; have hd2 := hd'.out.trans ((hq2.below _).mono hd'.out.size); have hq2' := Lib.hid hq2; have hd2' := Lib.hid hd2; clear hq2 hd2
      go_wp2
      go_ret2
      exact ⟨.inl ⟨hc'.out, rfl⟩, hd2'.out⟩
    · have l1 := size_ok hs1
      have l2 := size_ok hs2
      have hcd : codeB b last = if 11 < bitLen (v0 - last).natAbs then none else (acFrom ((toZ b).drop 1) (some ([codOf 0 0 (v0 - last)], 0))).map acEnd := by
        rw [hcod'.out]
        by_cases h11 : 11 < bitLen (v0 - last).natAbs
        · rw [if_pos (.inr (.inr h11)), if_pos h11]
        · rw [if_neg (by rintro (h | h | h) <;> contradiction), if_neg h11]
      obtain ⟨m, hm⟩ : ∃ m, sizeS last = m := ⟨_, rfl⟩; obtain ⟨m2, hm2⟩ : ∃ m, sizeS v0 = m := ⟨_, rfl⟩; have hS3 := hS1'.out; have hS4 := hS2'.out; rw [hm] at hS3 hs1; rw [hm2] at hS4 hs2; have d1 : decide (m < 0) = false := by simpa using hs1
      have d2 : decide (m2 < 0) = false := by simpa using hs2
      clear hcod' hS1' hS2' hs1 hs2; have hS3' := Lib.hid hS3; have hS4' := Lib.hid hS4; have hcd' := Lib.hid hcd; have hm' := Lib.hid hm; have hm2' := Lib.hid hm2; clear hS3 hS4 hcd hm hm2
      go_wp2_with fail
      refine hS3'.out.mono ?_; rintro e w1 ⟨rfl, hq1⟩; have bk1 := b1'.out.late (hq1.below _); have k1 := H0'.out w1 bk1; have hd := hb1'.out.trans ((hq1.below _).mono hb1'.out.size); clear k0; have hq1' := Lib.hid hq1; have hd' := Lib.hid hd; have bk1' := Lib.hid bk1; clear hq1 hd bk1
      go_wp2_with fail
      refine (hS4'.out w1).mono ?_; rintro e w2 ⟨rfl, hq2⟩; have bk2 := bk1'.out.late (hq2.below _); have hd2 := hd'.out.trans ((hq2.below _).mono hd'.out.size); have hal := (Below.refl w2.heap.size w2).alloc (Nat.le_refl _) (.cells #[.slice none 0 0, .int .i64 0, .bool false] 245); have hC3 := Blk.new w2 245 #[.slice none 0 0, .int .i64 0, .bool false]; have bk3 := bk2.late hal; have hd3 := hd2.trans (hal.mono hd2.size); have hgw : w.heap.size < w2.heap.size := bk2.lt; obtain ⟨w3, hw3⟩ : ∃ W, w2.alloc (.cells #[.slice none 0 0, .int .i64 0, .bool false] 245) = W := ⟨_, rfl⟩; rw [hw3] at hC3 bk3 hd3; obtain ⟨gc, hgc⟩ : ∃ x, w2.heap.size = x := ⟨_, rfl⟩; rw [hgc] at hC3 hgw; have k3 := H0'.out w3 bk3; have hCs : Cs w.heap.size w3 gc [] 0 false := ⟨⟨none, 0, hC3, own_nil _ _ _ _⟩, by omega⟩; have hdw : (Lit.int .i64 (v0 - last)).wf = true := wf_of (by omega) (by omega); have hP := cput_any w.heap.size gc [] 0 false 0 (v0 - last) 11 w3 hCs hdw (by omega) (by omega) (by simp); rw [show ((11 : Nat) : Int) = 11 from rfl] at hP; clear k1 hal; obtain ⟨dv, hdv⟩ : ∃ x, v0 - last = x := ⟨_, rfl⟩; rw [hdv] at hP; have hdw2 : wrap64 (v0 - last) = dv := by unfold wrap64; omega
      have hq2' := Lib.hid hq2; have bk2' := Lib.hid bk2; have hd2' := Lib.hid hd2; have hC3' := Lib.hid hC3; have bk3' := Lib.hid bk3; have hd3' := Lib.hid hd3; have hw3' := Lib.hid hw3; have hgc' := Lib.hid hgc; have hCs' := Lib.hid hCs; have hP' := Lib.hid hP; clear hq2 bk2 hd2 hC3 bk3 hd3 hw3 hgc hCs hP
      go_upto_region 4 with fail
      rw [hw3'.out, hgc'.out]
      go_wp2_with fail
      refine hP'.out.mono ?_; rintro e w4 ⟨rfl, hbel4, kc4, hif⟩; obtain ⟨S0, hS0⟩ : ∃ s, (if 11 < bitLen dv.natAbs then none else some ([codOf 0 0 dv], 0) : Option (List Cod × Nat)) = s := ⟨_, rfl⟩
      have hcd2 : codeB b last = (acFrom ((toZ b).drop 1) S0).map acEnd := by
        rw [hcd'.out, ← hS0, hdv]
        split
        · rw [acFrom_none]; rfl
        · rfl
      obtain ⟨o0, f0, ho0, hC4, hR4⟩ : ∃ (o : List Cod) (f : Bool), o.length ≤ 1 ∧ Cs w.heap.size w4 gc o 0 f ∧ CRel S0 o 0 f := by
        by_cases h11 : bitLen dv.natAbs ≤ 11
        · rw [if_pos h11] at hif
          rw [if_neg (by omega)] at hS0; exact ⟨_, _, by simp, hif, .inr ⟨rfl, by rw [← hS0]; simp⟩⟩
        · rw [if_neg h11] at hif
          rw [if_pos (by omega)] at hS0; exact ⟨_, _, by simp, hif, .inl ⟨rfl, hS0.symm⟩⟩
      have bk4 := kc4.blk bk3'.out (by decide) (by decide); have hd4 : Below w.heap.size w w4 := hd3'.out.trans hbel4; have hT := pto_any b A hA'.out w4 ht; have hc4 := HC'.out w4 bk4; have hRl : (ints .i64 (toZ b)).length = 64 := by rw [ints_len, toZ_len]
      obtain ⟨R, hR⟩ : ∃ R, (ints .i64 (toZ b)).toArray = R := ⟨_, rfl⟩; rw [hR] at hT; clear hdw2 hif kc4 hbel4 hcd' k3 d1 d2; have hcd2' := Lib.hid hcd2; have hS0' := Lib.hid hS0; have ho0' := Lib.hid ho0; have hC4' := Lib.hid hC4; have hR4' := Lib.hid hR4; have bk4' := Lib.hid bk4; have hd4' := Lib.hid hd4; have hT' := Lib.hid hT; have hR' := Lib.hid hR; have hRl' := Lib.hid hRl; have hdv' := Lib.hid hdv; clear hcd2 hS0 ho0 hC4 hR4 bk4 hd4 hT hR hRl hdv
      go_upto_region 5 with fail
      go_wp2_with (refine wpList_load_at rfl 129 (.tmp 2) rfl w.heap.size 0 rfl (ints .i64 b) A hA'.out _ hc4 Try.underlying129 rfl 64 (by kernel_rfl) hib'.out ?_)
      refine hT'.out.mono ?_; rintro e w5 ⟨rfl, hb5⟩; have hC5 := hC4'.out.late hb5; have hd5 := hd4'.out.trans (hb5.mono hd4'.out.size); have hal := (Below.refl w5.heap.size w5).alloc (Nat.le_refl _) (.cells z64 129); have hZ := Blk.new w5 129 z64; have hC6 := hC5.late hal; have hd6 := hd5.trans (hal.mono hd5.size); have hZ0 : (w5.alloc (.cells z64 129)).heap[w5.heap.size]? = some (.cells z64 129 (0, 0)) := hZ; have hRs : R.size = 64 := by rw [← hR'.out, List.size_toArray]; exact hRl'.out
      have hR1 : R.all (·.oneCell') = true := by rw [← hR'.out]; exact ints_one'
      have hzs : z64.size = R.size := by rw [hRs]; rfl
      have hin : (Try.prog.info? 129).map (·.size) = some R.size := by rw [hRs]; kernel_rfl
      have hal2 := (Below.refl w5.heap.size w5).alloc (Nat.le_refl _) (.cells R 129); have hC7 := hC5.late hal2; have hZ7 := Blk.new w5 129 R; have hd7 := hd5.trans (hal2.mono hd5.size); have hsr : (w5.alloc (.cells z64 129)).setRow w5.heap.size R = w5.alloc (.cells R 129) := setRow_alloc _ _ _ _; obtain ⟨w6, hw6⟩ : ∃ W, w5.alloc (.cells R 129) = W := ⟨_, rfl⟩; rw [hw6] at hC7 hZ7 hd7 hsr; unfold z64 at hsr; obtain ⟨g7, hg7⟩ : ∃ x, w5.heap.size = x := ⟨_, rfl⟩; rw [hg7] at hZ7; clear hal hal2 hc4 hC6 hd6 hZ; have hC5' := Lib.hid hC5; have hd5' := Lib.hid hd5; have hZ0' := Lib.hid hZ0; have hC7' := Lib.hid hC7; have hZ7' := Lib.hid hZ7; have hd7' := Lib.hid hd7; have hw6' := Lib.hid hw6; have hg7' := Lib.hid hg7; have hb5' := Lib.hid hb5; have hRs' := Lib.hid hRs; have hR1' := Lib.hid hR1; have hzs' := Lib.hid hzs; have hin' := Lib.hid hin; have hsr' := Lib.hid hsr; clear hC5 hd5 hZ0 hC7 hZ7 hd7 hw6 hg7 hb5 hRs hR1 hzs hin hsr
      go_upto_region 6 with (refine wpList_store_row rfl 129 (.tmp 7) (.tmp 25) rfl w5.heap.size R rfl rfl 129 z64 hZ0'.out hin'.out hzs'.out hR1'.out ?_; rw [hsr'.out])
      try rw [hg7'.out]
      try simp only [Act.put]
      have hcut : ∀ W : World, (Instr.sliceAt 129 (.pointer (some ⟨g7, 0, none⟩)) (some (.int .i64 1)) none none).run Try.prog W = .ok (.slice (some ⟨g7, 1, none⟩) 63 63) W := fun W => by kernel_rfl
      have hB0 : w.heap.size ≤ g7 := by have := hd5'.out.size; have := hg7'.out; omega
      clear hC4' hT' hC5' hZ0' hin' hzs' hR1' hsr'
      go_wp2_with fail
      go_loopw [28] (fun iv wr => ∃ (k z : Nat) (o : List Cod) (f : Bool), k ≤ 63 ∧ iv = .int .i64 k ∧ o.length ≤ 1 + 5 * k ∧ z ≤ k ∧ Hid (CRel (acFrom (((toZ b).drop 1).take k) S0) o z f) ∧ Hid (Cs w.heap.size wr gc o z f) ∧ Hid (Blk wr g7 129 R) ∧ Hid (Below w.heap.size w wr)) (fun iv _ => 63 - (intOf iv).toNat)
      case atStart => exact ⟨0, 0, o0, f0, by omega, rfl, by have := ho0'.out; omega, by omega, hR4', hC7', hZ7', hd7'⟩
      case round =>
        obtain ⟨k, z, o, f, hk, rfl, hol, hzk, hrel2, hCR, hZR, hdR⟩ := hrel
        by_cases hlt : k < 63
        · have hgk : (ints .i64 (toZ b))[1 + k]? = some (.int .i64 ((toZ b).getD (1 + k) 0)) := ints_get (by rw [toZ_len]; omega)
          have q0 : wr.cell? ⟨g7, 1 + k, none⟩ = some (.int .i64 ((toZ b).getD (1 + k) 0)) := hZR.out.cell (by rw [← hR'.out, List.getElem?_toArray]; exact hgk); have hst := acFrom_take (l := (toZ b).drop 1) (k := k) (by rw [List.length_drop, toZ_len]; omega) S0; have hgd : ((toZ b).drop 1).getD k 0 = (toZ b).getD (1 + k) 0 := by simp [List.getD_eq_getElem?_getD, List.getElem?_drop, Nat.add_comm]
          rw [hgd] at hst; obtain ⟨v, hv⟩ : ∃ x, (toZ b).getD (1 + k) 0 = x := ⟨_, rfl⟩; rw [hv] at q0 hst; have hvw : (Lit.int .i64 v).wf = true := hw'.out v ((mem_toZ ht).1 (by rw [← hv]; exact get_mem (by rw [toZ_len]; omega)))
          by_cases hv0 : v = 0
          · subst hv0
            obtain ⟨ca, cc, hcb, hco⟩ := hCR.out.ex; have e1 : wr.cell? ⟨gc, 1, none⟩ = some (.int .i64 z) := hcb.cell rfl; have y1 := hcb.frozen 1; have b2 := hcb.set 1 (.int .i64 ((z : Int) + 1)); have bt2 := (But.refl gc wr).set 1 (.int .i64 ((z : Int) + 1)); have o2 := own_but hco bt2 (own_neK hco hcb); have z2 := hZR.out.but bt2 (by intro e; have h1 := hZR.out; rw [e] at h1; have h2 : wr.heap[gc]? = some (.cells R 129 (0, 0)) := h1; rw [show wr.heap[gc]? = some (.cells _ 245 (0, 0)) from hcb] at h2; injection h2 with h2; injection h2 with _ h2; exact absurd h2 (by decide)); have d2 := hdR.out.trans (bt2.below hCR.out.gB hdR.out.size); have hr2 := hrel2.out.zero; rw [← hst] at hr2; have hgB := hCR.out.gB; have hgk' := Lib.hid hgk; have hst' := Lib.hid hst; have hgd' := Lib.hid hgd; have hv' := Lib.hid hv; have hvw' := Lib.hid hvw; have hcb' := Lib.hid hcb; have hco' := Lib.hid hco; have b2' := Lib.hid b2; have bt2' := Lib.hid bt2; have o2' := Lib.hid o2; have z2' := Lib.hid z2; have d2' := Lib.hid d2; have hr2' := Lib.hid hr2; have hgB' := Lib.hid hgB; clear hgk hst hgd hv hvw hcb hco b2 bt2 o2 z2 d2 hr2 hgB
            go_wp2_with fail
            go_roundw
            case rel => exact ⟨k + 1, z + 1, o, f, by omega, by go_num, by omega, by omega, hr2', Lib.hid ⟨⟨ca, cc, b2'.out, o2'.out⟩, hgB'.out⟩, z2', d2'⟩
            case measure => simp [intOf]; omega
          · have hP := cput_any w.heap.size gc o z f 1 v 10 wr hCR.out hvw (by omega) (by omega) (by omega)
            rw [show ((10 : Nat) : Int) = 10 from rfl] at hP; have hve : (v == 0) = false := by simpa using hv0
            obtain ⟨st2, hst2⟩ : ∃ x, acFrom (((toZ b).drop 1).take (k + 1)) S0 = x := ⟨_, rfl⟩; rw [hst2] at hst; have hz0n : v ≠ 0 := hv0; have hvn := Lib.hid hz0n; clear hz0n hv0; have hP' := Lib.hid hP; have hgk' := Lib.hid hgk; have hst' := Lib.hid hst; have hgd' := Lib.hid hgd; have hv' := Lib.hid hv; have hvw' := Lib.hid hvw; have hst2' := Lib.hid hst2; clear hP hgk hst hgd hv hvw hst2
            go_wp2_with fail
            refine hP'.out.mono ?_; rintro e w8 ⟨rfl, hb8, kc8, hif⟩; have z8 := kc8.blk hZR.out (by decide) (by decide); have d8 := hdR.out.trans hb8
            obtain ⟨o2, z2, f2, ho2, hz2, hC8, hr8⟩ : ∃ (o2 : List Cod) (z2 : Nat) (f2 : Bool), o2.length ≤ 1 + 5 * (k + 1) ∧ z2 ≤ k + 1 ∧ Cs w.heap.size w8 gc o2 z2 f2 ∧ CRel st2 o2 z2 f2 := by
              rw [hst'.out]
              by_cases hb10 : bitLen v.natAbs ≤ 10
              · rw [if_pos hb10] at hif
                exact ⟨_, _, _, by simp; omega, by omega, hif, hrel2.out.ok hvn.out hb10⟩
              · rw [if_neg hb10] at hif
                exact ⟨_, _, _, by omega, by omega, hif, hrel2.out.bad hvn.out hb10⟩
            clear hif; rw [← hst2'.out] at hr8; have z8' := Lib.hid z8; have d8' := Lib.hid d8; have hC8' := Lib.hid hC8; have hr8' := Lib.hid hr8; have hb8' := Lib.hid hb8; have kc8' := Lib.hid kc8; clear z8 d8 hC8 hr8 hb8 kc8
            go_wp2_with fail
            go_roundw
            case rel => exact ⟨k + 1, z2, o2, f2, by omega, by go_num, by omega, by omega, hr8', hC8', z8', d8'⟩
            case measure => simp [intOf]; omega
        · obtain rfl : k = 63 := by omega
          have htk : ((toZ b).drop 1).take 63 = (toZ b).drop 1 := List.take_of_length_le (by rw [List.length_drop, toZ_len]; omega); rw [htk] at hrel2; obtain ⟨ca, cc, hcb, hco⟩ := hCR.out.ex; have e1 : wr.cell? ⟨gc, 1, none⟩ = some (.int .i64 z) := hcb.cell rfl; have hgB := hCR.out.gB
          have hend : (f = true ∧ codeB b last = none) ∨ (f = false ∧ codeB b last = some (acEnd (o, z))) := by
            rw [hcd2'.out]
            rcases hrel2.out with ⟨h1, h2⟩ | ⟨h1, h2⟩
            · rw [h2]; exact .inl ⟨h1, rfl⟩
            · rw [h2]; exact .inr ⟨h1, rfl⟩
          obtain ⟨L, hL⟩ : ∃ L, acEnd (o, z) = L := ⟨_, rfl⟩; rw [hL] at hend
          by_cases hz : 0 < z
          · have hL2 : L = o ++ [(1, 0, 0, 0)] := by rw [← hL]; unfold acEnd; rw [if_pos hz]
            have hll : L.length = o.length + 1 := by rw [hL2]; simp
            have dz : decide ((0 : Int) < z) = true := by simpa using hz
            have e0 : wr.cell? ⟨gc, 0, none⟩ = some (.slice ca o.length cc) := hcb.cell rfl; have hal := (Below.refl wr.heap.size wr).alloc (Nat.le_refl _) (.cells #[.int .i64 1, .int .i64 0, .int .i64 0, .int .i64 0] 133); have o4 := own_later hco hal; have b4 := hcb.late hal; have s4 := Sl.new wr 133 4 1 #[.int .i64 1, .int .i64 0, .int .i64 0, .int .i64 0] (0, 0) (by decide) rfl; have d4 := hdR.out.trans (hal.mono hdR.out.size); have hrow5 : codC o ++ [.int .i64 1, .int .i64 0, .int .i64 0, .int .i64 0] = codC L := by rw [hL2, codC_app _ [_]]; rfl
            clear hal; have hcb' := Lib.hid hcb; have hco' := Lib.hid hco; have o4' := Lib.hid o4; have b4' := Lib.hid b4; have s4' := Lib.hid s4; have d4' := Lib.hid d4; have hrow5' := Lib.hid hrow5; have hL2' := Lib.hid hL2; have hgB' := Lib.hid hgB; have hend' := Lib.hid hend; have hL' := Lib.hid hL; have htk' := Lib.hid htk; have hll' := Lib.hid hll; clear hcb hco o4 b4 s4 d4 hrow5 hL2 hgB hend hL htk hll
            go_upto_region 15 with (at_builtin; refine wpList_app2 rfl _ _ 146 rfl w.heap.size 133 i1 _ 4 32 Try.underlying146 hi hz0 hz1 hz2 rfl (by decide) _ o.length _ rfl o4'.out ⟨wr.heap.size, 0, none⟩ 1 1 [.int .i64 1, .int .i64 0, .int .i64 0, .int .i64 0] rfl s4'.out (by simp [Value.oneCell']) (by omega) (by decide) d4'.out.size ?_; intro a5 c5 w5 ho5 hg5 hn5; have g5 : Mo (fun j => (Value.slice ca o.length cc).ownBlock = some j) _ w5 := Mo.of_grown hg5 (fun _ e => e); have b5 := b4'.out.mo g5 (own_neK o4'.out b4'.out); have y5 := b5.frozen 0; have e5 : w5.cell? ⟨gc, 0, none⟩ = some (.slice ca o.length cc) := b5.cell rfl; have hd5 := d4'.out.trans (Mo.below (S := fun j => w.heap.size ≤ j) (Mo.of_grown hg5 (fun k e => (o4'.out.lt k e).1)) d4'.out.size (fun k hk h => by omega)); have Hd5 := Lib.hid hd5; clear hd5; have Ho5 := Lib.hid ho5; have B5 := Lib.hid b5; clear ho5 hg5 hn5 g5 b5)
            have b6 := B5.out.set 0 (.slice a5 (o.length + 1) c5); have bt6 := (But.refl gc w5).set 0 (.slice a5 (o.length + 1) c5); have o6 := own_but Ho5.out bt6 (own_neK Ho5.out B5.out); have d6 := Hd5.out.trans (bt6.below hgB'.out Hd5.out.size); rw [hrow5'.out] at o6; obtain ⟨w6, hw6⟩ : ∃ W, w5.setCell ⟨gc, 0, none⟩ (.slice a5 (o.length + 1) c5) = W := ⟨_, rfl⟩; rw [hw6] at b6 o6 d6 ⊢; rw [← hll'.out] at b6 o6; clear e0 e1 y5 e5 bt6 hw6 dz; have hend := hend'.out; have hL := hL'.out; have htk := htk'.out; clear hend' hL' htk'; have e0 : w6.cell? ⟨gc, 0, none⟩ = some (.slice a5 L.length c5) := (b6).cell rfl; have e2 : w6.cell? ⟨gc, 2, none⟩ = some (.bool f) := (b6).cell rfl
            rcases hend with ⟨rfl, hc⟩ | ⟨rfl, hc⟩
            · have hc' := Lib.hid hc
              have htk' := Lib.hid htk; have hL' := Lib.hid hL; clear hc htk hL
              go_wp2_with fail
              go_ret2
              exact ⟨.inl ⟨hc'.out, rfl⟩, d6⟩
            · have ho9 := o6
              have hc' := Lib.hid hc; have htk' := Lib.hid htk; have hL' := Lib.hid hL; have ho9' := Lib.hid ho9; clear hc htk hL ho9
              go_wp2_with fail
              go_ret2
              first
                | exact ⟨.inr ⟨L, a5, c5, hc'.out, rfl, ho9'.out⟩, d6⟩
                | exact ⟨.inr ⟨L, hc'.out, a5, c5, rfl, ho9'.out⟩, d6⟩
                | exact ⟨.inr ⟨L, hc'.out, a5, c5, by rw [hll'.out]; rfl, ho9'.out⟩, d6⟩
                | exact ⟨.inr ⟨L, hc'.out, a5, c5, by rw [hll'.out], ho9'.out⟩, d6⟩
          · have hL2 : L = o := by rw [← hL]; unfold acEnd; rw [if_neg hz]
            obtain rfl : z = 0 := by omega
            subst hL2; have e0 : wr.cell? ⟨gc, 0, none⟩ = some (.slice ca L.length cc) := (hcb).cell rfl; have e2 : wr.cell? ⟨gc, 2, none⟩ = some (.bool f) := (hcb).cell rfl
            rcases hend with ⟨rfl, hc⟩ | ⟨rfl, hc⟩
            · have hc' := Lib.hid hc
              have htk' := Lib.hid htk; have hL' := Lib.hid hL; clear hc htk hL
              go_wp2_with fail
              go_ret2
              exact ⟨.inl ⟨hc'.out, rfl⟩, hdR.out⟩
            · have ho9 := hco
              have hc' := Lib.hid hc; have htk' := Lib.hid htk; have hL' := Lib.hid hL; have ho9' := Lib.hid ho9; clear hc htk hL ho9
              go_wp2_with fail
              go_ret2
              first
                | exact ⟨.inr ⟨L, ca, cc, hc'.out, rfl, ho9'.out⟩, hdR.out⟩
                | exact ⟨.inr ⟨L, hc'.out, ca, cc, rfl, ho9'.out⟩, hdR.out⟩
                | exact ⟨.inr ⟨L, hc'.out, ca, cc, by rw [hll'.out]; rfl, ho9'.out⟩, hdR.out⟩
                | exact ⟨.inr ⟨L, hc'.out, ca, cc, by rw [hll'.out], ho9'.out⟩, hdR.out⟩
end Go.Proofs.Ytpjopeojeglogaa

namespace Go.Proofs.Ytpjopeojeglogaa
open Go.RowKit Tt
set_option linter.unusedVariables false
set_option linter.unusedSimpArgs false

/-- a table of codes with the place of its symbols -/
abbrev HufM := (List Int × List Int) × Option Addr × Nat × Nat
def hufC (h : HufM) : List Value := ints .i64 h.1.1 ++ [.slice h.2.1 h.2.2.1 h.2.2.2]
structure HufOk (w : World) (h : HufM) : Prop where
  len : h.1.1.length = 16
  sl : Sl w h.2.1 h.2.2.1 h.2.2.2 1 (ints .i64 h.1.2)
  few : h.2.2.1 ≤ 1000
  wf : ∀ x ∈ h.1.2, (Lit.int .i64 x).wf = true
theorem HufOk.mono {w w' : World} {h : HufM} (k : HufOk w h) (hb : Below w.heap.size w w') : HufOk w' h := ⟨k.len, k.sl.mono hb, k.few, k.wf⟩
theorem hufC_len {h : HufM} (hl : h.1.1.length = 16) : (hufC h).length = 17 := by simp [hufC, ints_len, hl]
/-- a plane -/
abbrev PtM := Int × Int × HufM × HufM
def pC (p : PtM) : List Value := .int .i64 p.1 :: .int .i64 p.2.1 :: (hufC p.2.2.1 ++ hufC p.2.2.2)
structure PtOk (w : World) (p : PtM) : Prop where
  dc : HufOk w p.2.2.1
  ac : HufOk w p.2.2.2
theorem PtOk.mono {w w' : World} {p : PtM} (h : PtOk w p) (hb : Below w.heap.size w w') : PtOk w' p := ⟨h.dc.mono hb, h.ac.mono hb⟩
theorem pC_len {w : World} {p : PtM} (h : PtOk w p) : (pC p).length = 36 := by simp [pC, hufC_len h.dc.len, hufC_len h.ac.len]
/-- planes in a row -/
structure PtsR (w : World) (a : Option Addr) (n c : Nat) (ps : List PtM) : Prop where
  sl : Sl w a n c 36 ((ps.map pC).flatten)
  ok : ∀ p ∈ ps, PtOk w p
theorem PtsR.mono {w w' : World} {a : Option Addr} {n c : Nat} {ps : List PtM} (h : PtsR w a n c ps) (hb : Below w.heap.size w w') : PtsR w' a n c ps := ⟨h.sl.mono hb, fun p hp => (h.ok p hp).mono hb⟩
theorem PtsR.ilen {w : World} {a : Option Addr} {n c : Nat} {ps : List PtM} (h : PtsR w a n c ps) : ps.length = n := by
  have h1 := h.sl.len; rw [flat_len pC 36 ps (fun p hp => pC_len (h.ok p hp))] at h1
  omega
theorem PtsR.elem {w : World} {a : Option Addr} {n c : Nat} {ps : List PtM} (h : PtsR w a n c ps) {k : Nat} {p : PtM} (hp : ps[k]? = some p) :
    ∃ b o, a = some ⟨b, o, none⟩ ∧ b < w.heap.size ∧ ∀ j v, (pC p)[j]? = some v → w.cell? ⟨b, o + k * 36 + j, none⟩ = some v := by
  have hk : k < n := by rw [← h.ilen]; exact (List.getElem?_eq_some_iff.1 hp).1
  obtain ⟨b, o, e, hb, _, hc⟩ := h.sl.elem hk; rw [flat_elem pC 36 ps (fun p hp => pC_len (h.ok p hp)) k p hp] at hc; exact ⟨b, o, e, hb, hc⟩
theorem infoP : (Try.prog.info? 47).map (·.size) = some 36 := by kernel_rfl
theorem hufC_one {h : HufM} : ∀ x ∈ hufC h, x.oneCell' = true := fun x hx => by
  rcases List.mem_append.1 hx with hx | hx
  · exact ints_one x hx
  · rw [List.mem_singleton.1 hx]; rfl
theorem pC_one {p : PtM} : (pC p).toArray.all (·.oneCell') = true := by
  rw [Array.all_eq_true_iff_forall_mem]; intro x hx; have hx : x ∈ pC p := by simpa using hx
  rcases List.mem_cons.1 hx with rfl | hx
  · rfl
  · rcases List.mem_cons.1 hx with rfl | hx
    · rfl
    · rcases List.mem_append.1 hx with hx | hx
      · exact hufC_one x hx
      · exact hufC_one x hx
/-- the fields of a plane's variable -/
theorem pB_cells {w : World} {g : Nat} {p : PtM} (hd : p.2.2.1.1.1.length = 16) (h : Blk w g 47 (pC p).toArray) :
    w.cell? ⟨g, 0, none⟩ = some (.int .i64 p.1) ∧ w.cell? ⟨g, 1, none⟩ = some (.int .i64 p.2.1) ∧ (∀ j v, (hufC p.2.2.1)[j]? = some v → w.cell? ⟨g, 2 + j, none⟩ = some v) ∧ (∀ j v, (hufC p.2.2.2)[j]? = some v → w.cell? ⟨g, 19 + j, none⟩ = some v) := by
  refine ⟨h.cell rfl, h.cell rfl, fun j v hv => h.cell ?_, fun j v hv => h.cell ?_⟩
  · rw [List.getElem?_toArray, Nat.add_comm]
    show ((hufC p.2.2.1 ++ hufC p.2.2.2))[j]? = _
    rw [List.getElem?_append_left (List.getElem?_eq_some_iff.1 hv).1, hv]
  · rw [List.getElem?_toArray, show 19 + j = (17 + j) + 1 + 1 by omega]
    show ((hufC p.2.2.1 ++ hufC p.2.2.2))[17 + j]? = _
    rw [List.getElem?_append_right (by rw [hufC_len hd]; omega), hufC_len hd, Nat.add_sub_cancel_left, hv]
/-- which scans may be -/
def mayH (h : HufM) : Bool := hMay h.1.1 h.1.2
def mayPt (p : PtM) : Bool := decide (1 ≤ p.1 ∧ p.1 ≤ 4 ∧ 1 ≤ p.2.1 ∧ p.2.1 ≤ 4) && mayH p.2.2.1 && mayH p.2.2.2
def sumPt (ps : List PtM) : Int := (ps.map fun p => p.1 * p.2.1).sum
structure ScT where
  ax : Int
  dn : Int
  iv : Int
  ps : List PtM
def mayTop (s : ScT) : Bool := decide (1 ≤ s.ax ∧ s.ax ≤ 512 ∧ 1 ≤ s.dn ∧ s.dn ≤ 512 ∧ 1 ≤ s.ps.length ∧ s.ps.length ≤ 4 ∧ 0 ≤ s.iv ∧ s.iv ≤ 65535)
def mayS (s : ScT) : Bool := mayTop s && s.ps.all mayPt && decide (sumPt s.ps ≤ 10)
theorem mayS_top {s : ScT} (h : mayTop s = false) : mayS s = false := by unfold mayS; rw [h]; rfl
theorem mayS_bad {s : ScT} {k : Nat} {p : PtM} (h : s.ps[k]? = some p) (hp : mayPt p = false) : mayS s = false := by
  unfold mayS; have : s.ps.all mayPt = false := List.all_eq_false.2 ⟨p, List.mem_of_getElem? h, by rw [hp]; simp⟩; rw [this, Bool.and_false]
  rfl
theorem mayS_end {s : ScT} (h : mayTop s = true) (hp : ∀ (k : Nat) p, s.ps[k]? = some p → mayPt p = true) : mayS s = decide (sumPt s.ps ≤ 10) := by
  unfold mayS; rw [h, List.all_eq_true.2 (fun p hp' => by obtain ⟨k, hk, rfl⟩ := List.mem_iff_getElem.1 hp'; exact hp k _ (List.getElem?_eq_getElem hk))]
  rfl
theorem sumPt_snoc {ps : List PtM} {k : Nat} {p : PtM} (h : ps[k]? = some p) : sumPt (ps.take (k + 1)) = sumPt (ps.take k) + p.1 * p.2.1 := by
  unfold sumPt; rw [List.take_add_one, h, List.map_append, List.sum_append]
  simp
theorem mayPt_bd {p : PtM} (h : mayPt p = true) : 1 ≤ p.1 ∧ p.1 ≤ 4 ∧ 1 ≤ p.2.1 ∧ p.2.1 ≤ 4 ∧ mayH p.2.2.1 = true ∧ mayH p.2.2.2 = true := by
  unfold mayPt at h; simp only [Bool.and_eq_true, decide_eq_true_eq] at h; exact ⟨h.1.1.1, h.1.1.2.1, h.1.1.2.2.1, h.1.1.2.2.2, h.1.2, h.2⟩
end Go.Proofs.Ytpjopeojeglogaa
