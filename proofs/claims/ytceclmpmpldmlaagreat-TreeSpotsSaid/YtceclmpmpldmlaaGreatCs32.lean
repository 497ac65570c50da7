/- Chapter 21: a tree is written: the program. -/
import Derived.Test.YtceclmpmpldmlaaGreatCs26
namespace Go.Proofs.YtceclmpmpldmlaaGreat
open Go.RowKit Tt
set_option linter.unusedVariables false
set_option linter.unusedSimpArgs false
set_option maxRecDepth 20000 in
set_option maxHeartbeats 8000000 in
theorem twrite_any (f : Nat) (o : Int) (sa : Option Addr) (sn sc : Nat) (ds : List (DirT f)) (a : Option Addr) (n c : Nat) (zs : List Shz) (w : World) (h : DirsR f w sa sn sc ds) (hz : ShR w a n c zs) (hs : ∀ d ∈ ds, smallD f d) (hby : ∀ d ∈ ds, bytD f d) (hN : (flatT f ds).length < 1000) (hsn : sn ≤ 500)
    (hok : checkS f o ds (shps zs) = 0 → OKT f o ds (shps zs)) :
    Calls Tryz.prog 10 #[.agg #[.int .i64 o, .slice sa sn sc], .slice a n c] w fun e w' => ∃ a' m c', e = .returned (.tuple #[.slice a' m c', .int .i64 (checkS f o ds (shps zs))]) ∧ w'.ownsRow w.heap.size 5 1 (.slice a' m c') m (ints .u8 (wrtS f o ds (shps zs))) ∧ Below w.heap.size w w' := by
  have hb1 := (Below.refl w.heap.size w).alloc (Nat.le_refl _) (.cells #[.int .i64 o, .slice sa sn sc] 39); have bA := Blk.new w 39 #[.int .i64 o, .slice sa sn sc]; obtain ⟨W1, hW1⟩ : ∃ W1, w.alloc (.cells #[.int .i64 o, .slice sa sn sc] 39) = W1 := ⟨_, rfl⟩; have hs1 : W1.heap.size = w.heap.size + 1 := by rw [← hW1]; simp
  rw [hW1] at hb1 bA; have hC := pcheck_any f o sa sn sc ds a n c zs W1 (h.mono hb1) (hz.mono hb1) hs hby hN hsn; obtain ⟨R, hR⟩ : ∃ R, checkS f o ds (shps zs) = R := ⟨_, rfl⟩; have hwr : wrtS f o ds (shps zs) = if R = 0 then treeW f o ds (shps zs) else [] := by unfold wrtS; rw [hR]
  rw [hR] at hC hok ⊢; obtain ⟨WB, hWB⟩ : ∃ x, wrtS f o ds (shps zs) = x := ⟨_, rfl⟩; rw [hWB] at hwr ⊢; have c0 : W1.cell? ⟨w.heap.size, 0, none⟩ = some (.int .i64 o) := bA.cell rfl; have c1 : W1.cell? ⟨w.heap.size, 1, none⟩ = some (.slice sa sn sc) := bA.cell rfl; have h' := Lib.hid h; have hz' := Lib.hid hz; have hs' := Lib.hid hs; have hby' := Lib.hid hby
  have hN' := Lib.hid hN; have hb1' := Lib.hid hb1; have bA' := Lib.hid bA; have hW1' := Lib.hid hW1; have hC' := Lib.hid hC; have hR' := Lib.hid hR; have hwr' := Lib.hid hwr; have hok' := Lib.hid hok; have hWB' := Lib.hid hWB; clear h hz hs hby hN hb1 bA hW1 hC hR hwr hok hWB
  go_enter Tryz.func10, Tryz.ntmps10
  go_wp2_with fail
  rw [hW1'.out]; refine hC'.out.mono ?_; rintro e w2 ⟨rfl, hb2⟩; have bA2 := bA'.out.late hb2; have hbw2 := hb1'.out.trans (hb2.mono hb1'.out.size); clear c0 c1
  by_cases hR0 : R = 0
  · subst hR0
    rw [if_pos (by rfl)] at hwr'; have hO := hok'.out rfl; have hqt := (Below.refl w2.heap.size w2).drew; have bA3 := bA2.late hqt; obtain ⟨Ty, ff, hne, hcl, hsurj⟩ := pred_worlds (fun W => Blk W w.heap.size 39 #[.int .i64 o, .slice sa sn sc]) w2 bA2; have HS := Lib.hid (hsurj w2.drew bA3); have q0 : ∀ s, (ff s).cell? ⟨w.heap.size, 0, none⟩ = some (.int .i64 o) := fun s => (hcl s).cell rfl; have q1 : ∀ s, (ff s).cell? ⟨w.heap.size, 1, none⟩ = some (.slice sa sn sc) := fun s => (hcl s).cell rfl; obtain ⟨wD, hwD⟩ : ∃ wD, w2.drew = wD := ⟨_, rfl⟩; rw [hwD] at bA3 HS hqt; have hbw3 := hbw2.trans (hqt.mono hbw2.size); obtain ⟨m, hm⟩ : ∃ m : Nat, longT f ds = m := ⟨(longT f ds).toNat, by have := hO.n8; omega⟩; have hm8 := hO.n8; have hm1 := hO.n1; have hL := plng_any f o sa sn sc ds wD (h'.out.mono hbw3) hs'.out hby'.out hN'.out; rw [hm] at hL hm8 hm1; have hb2' := Lib.hid hb2; have bA2' := Lib.hid bA2; have hbw2' := Lib.hid hbw2; have hO' := Lib.hid hO; have hqt' := Lib.hid hqt; have bA3' := Lib.hid bA3; have hcl' := Lib.hid hcl; have hsurj' := Lib.hid hsurj; have hbw3' := Lib.hid hbw3; have hm' := Lib.hid hm; have hL' := Lib.hid hL; clear hb2 bA2 hbw2 hO hqt bA3 hcl hsurj hbw3 hm hL
    go_wp2_with fail
    refine held_begin (S := fun W => ∃ s, W = ff s) (by kernel_rfl) 10 rfl ?_; rw [hwD]; refine held_take [0, 3, 4, 6] 6 (by kernel_rfl) (fun d _ _ _ _ h => by cases d <;> exact h) (by kernel_rfl) (by kernel_rfl) (by kernel_rfl) HS.out ?_; simp only [pickL, List.map_cons, List.map_nil, List.getD_cons_succ, List.getD_cons_zero]
    iterate 4 (go_big_quiet_step (fail))
    refine wpQuiet_nil ?_; clear q0 q1 hwD; refine held_one 1 5 (by kernel_rfl) (by kernel_rfl) ?_; simp only [pickL, List.map_cons, List.map_nil, List.getD_cons_succ, List.getD_cons_zero]
    go_wp2_with fail
    refine hL'.out.mono ?_; rintro e w4 ⟨rfl, hb4⟩; have bA4 := bA3'.out.late hb4; have hbw4 := hbw3'.out.trans (hb4.mono hbw3'.out.size); have HS := Lib.hid (hsurj'.out _ bA4); have hb4' := Lib.hid hb4; have bA4' := Lib.hid bA4; have hbw4' := Lib.hid hbw4; clear hb4 bA4 hbw4
    go_wp2_with fail
    first | refine Mid.mk ⟨HS.out, ?_⟩ | refine Mid.mk ?_
    refine held_one 2 4 (by kernel_rfl) (by kernel_rfl) ?_; simp only [pickL, List.map_cons, List.map_nil, List.getD_cons_succ, List.getD_cons_zero]; obtain ⟨i0, hi, hz0, hz1, hz2⟩ := info_parts infoBB
    go_wp2_with (at_make; refine wpList_make_full w4 rfl _ _ 24 rfl w4.heap.size 5 i0 _ 1 Tryz.underlying24 hi hz0 hz1 .i64 .i64 _ _ m rfl rfl rfl rfl (by rw [hz2]; omega) (by unfold maxLen; omega) (Nat.le_refl _) ?_; intro w5 hown hg5; have R5 := Row.of_own (by rw [made_row] at hown; exact hown); have hb5 := (Below.refl w4.heap.size w4).grown hg5 (Nat.le_refl _) (fun k e => by cases e); clear hown hg5)
    have bA5 := bA4'.out.late hb5; have hbw5 := hbw4'.out.trans (hb5.mono hbw4'.out.size); have HS := Lib.hid (hsurj'.out _ bA5); have hgb0 := hbw4'.out.size; obtain ⟨g0, hg0⟩ : ∃ g0, w4.heap.size = g0 := ⟨_, rfl⟩; rw [hg0] at R5; have hgl := Row.lt R5; have hb5' := Lib.hid hb5; have bA5' := Lib.hid bA5; have hbw5' := Lib.hid hbw5; have R5' := Lib.hid R5; clear hb5 bA5 hbw5 R5
    first | refine Mid.mk ⟨HS.out, ?_⟩ | refine Mid.mk ?_
    refine held_take [5, 7] 2 (by kernel_rfl) (fun d _ _ _ _ h => by cases d <;> exact h) (by kernel_rfl) (by kernel_rfl) (by kernel_rfl) HS.out ?_; simp only [pickL, List.map_cons, List.map_nil, List.getD_cons_succ, List.getD_cons_zero]
    iterate 2 (go_big_quiet_step (fail))
    refine wpQuiet_nil ?_; refine held_one 8 1 (by kernel_rfl) (by kernel_rfl) ?_; simp only [pickL, List.map_cons, List.map_nil, List.getD_cons_succ, List.getD_cons_zero]
    go_wp2_with fail
    have ha6 := (Below.refl w5.heap.size w5).alloc (Nat.le_refl _) (.cells #[.slice (some ⟨g0, 0, none⟩) m m, .int .i64 o, .slice none 0 0, .slice a n c, .int .i64 0] 91); have bw := Blk.new w5 91 #[.slice (some ⟨g0, 0, none⟩) m m, .int .i64 o, .slice none 0 0, .slice a n c, .int .i64 0]; obtain ⟨g1, hg1⟩ : ∃ g1, w5.heap.size = g1 := ⟨_, rfl⟩; obtain ⟨W6, hW6⟩ : ∃ W6, w5.alloc (.cells #[.slice (some ⟨g0, 0, none⟩) m m, .int .i64 o, .slice none 0 0, .slice a n c, .int .i64 0] 91) = W6 := ⟨_, rfl⟩; rw [hW6] at ha6 bw ⊢; rw [hg1] at bw ⊢; have bA6 := bA5'.out.late ha6; have hbw6 := hbw5'.out.trans (ha6.mono hbw5'.out.size); have HS := Lib.hid (hsurj'.out _ bA6); have R6 : Row W6 g0 5 .u8 (List.replicate m 0) := Blk.late (T := 5) R5'.out ha6; have ha6' := Lib.hid ha6; have bw' := Lib.hid bw; have hW6' := Lib.hid hW6; clear ha6 bw hW6
    first | refine Mid.mk ⟨HS.out, ?_⟩ | refine Mid.mk ?_
    refine held_take [9] 0 (by kernel_rfl) (fun d _ _ _ _ h => by cases d <;> exact h) (by kernel_rfl) (by kernel_rfl) (by kernel_rfl) HS.out ?_; simp only [pickL, List.map_cons, List.map_nil, List.getD_cons_succ, List.getD_cons_zero]
    iterate 1 (go_big_quiet_step (fail))
    refine wpQuiet_nil ?_; refine held_last (by kernel_rfl) ?_; have bA5_ := bA5'; have bA4_ := bA4'; clear HS hcl' hsurj' bA2' bA3' bA4' bA5' hC' R5' hb5' hb4' hL' hW6' ha6'; have hO := hO'.out; have hPO := plof_any f o sa sn sc ds W6 (h'.out.mono hbw6) hs'.out hby'.out hN'.out; have c0 : W6.cell? ⟨w.heap.size, 0, none⟩ = some (.int .i64 o) := bA6.cell rfl; have c1 : W6.cell? ⟨w.heap.size, 1, none⟩ = some (.slice sa sn sc) := bA6.cell rfl; have bA6' := Lib.hid bA6; have hbw6' := Lib.hid hbw6; have R6' := Lib.hid R6; have hO' := Lib.hid hO; have hPO' := Lib.hid hPO; clear bA6 hbw6 R6 hO hPO
    go_wp2_with fail
    refine hPO'.out.mono ?_; rintro e w7 ⟨hor, hb7⟩
    obtain ⟨v7, rfl, hsp7⟩ : ∃ v, e = .returned (.tuple #[v, .bool true]) ∧ Spr W6.heap.size w7 v (layT f ds) := by
      rcases hor with ⟨_, h⟩ | ⟨h, _⟩
      · exact h
      · rw [hO'.out.fit] at h; cases h
    obtain ⟨spa, spc, rfl⟩ : ∃ a c, v7 = .slice a (layT f ds).length c := by
      rcases hsp7.2 with ⟨rfl, h0⟩ | ⟨g, cap, cur, rfl, _⟩
      · exact ⟨none, 0, by rw [h0]⟩
      · exact ⟨_, _, rfl⟩
    obtain ⟨spn, hspn⟩ : ∃ x, (layT f ds).length = x := ⟨_, rfl⟩; rw [hspn] at hsp7 ⊢; have bA7 := bA6'.out.late hb7; have bw7 := bw'.out.late hb7; have R7 : Row w7 g0 5 .u8 (List.replicate m 0) := Blk.late (T := 5) R6'.out hb7; have hbw7 := hbw6'.out.trans (hb7.mono hbw6'.out.size); clear c0 c1; have p2 : w7.cell? ⟨g1, 2, none⟩ = some (.slice none 0 0) := bw7.cell rfl; have y2 := bw7.frozen 2; have bw8 := bw7.set 2 (.slice spa spn spc); have hbt := (But.refl g1 w7).set 2 (.slice spa spn spc); have hg61 : g1 < W6.heap.size := bw'.out.lt; have hg60 : g0 < W6.heap.size := Row.lt R6'.out; have hne01 : g1 ≠ g0 := by omega
    have hsl7 := (Sl.of_own hsp7).1
    have hspb : ∀ x, spa = some x → W6.heap.size ≤ x.block ∧ x.block < w7.heap.size := fun x e => by
      have h1 := hsp7.2
      rcases h1 with ⟨hv, _⟩ | ⟨g, cap, cur, hv, hB, hg, _⟩
      · injection hv with h1 _ _; rw [h1] at e; cases e
      · injection hv with h1 _ _
        rw [h1] at e; injection e with e; rw [← e]; exact ⟨hB, (Array.getElem?_eq_some_iff.1 hg).1⟩
    have hWS : WrS ⟨g1, g0, m, o, spa, spn, spc, layT f ds, a, n, c, w7.heap.size⟩ (w7.setCell ⟨g1, 2, none⟩ (.slice spa spn spc)) 0 (List.replicate m 0) :=
      ⟨bw8, (hbt.block _ (Row.lt R7) (Ne.symm hne01)).trans R7, by simp, sl_eqs hsl7 hbt.size (fun x e hx => hbt.block _ hx (by have := hspb x e; omega)), fun x e => by have := hspb x e; exact ⟨by show x.block ≠ g1; omega, by show x.block ≠ g0; omega⟩, hne01, fun x e => (hspb x e).2, hbt.size⟩
    have hbw8 := hbw7.trans (hbt.below (B := w.heap.size) (by omega) hbw7.size); have bA8 := Blk.but_ hbt bA7 (by omega); obtain ⟨W8, hW8⟩ : ∃ W8, w7.setCell ⟨g1, 2, none⟩ (.slice spa spn spc) = W8 := ⟨_, rfl⟩; rw [hW8] at hWS hbw8 bA8; have hw0g1 : w.heap.size < g1 := by have := bA5_.out.lt; omega
    have hw0g0 : w.heap.size < g0 := by have := bA4_.out.lt; omega
    have hspn' := Lib.hid hspn; have hsp7' := Lib.hid hsp7; have bA7' := Lib.hid bA7; have bw7' := Lib.hid bw7; have R7' := Lib.hid R7; have hbw7' := Lib.hid hbw7; have bw8' := Lib.hid bw8; have hbt' := Lib.hid hbt; have hsl7' := Lib.hid hsl7; have hspb' := Lib.hid hspb; clear hspn hsp7 bA7 bw7 R7 hbw7 bw8 hbt hsl7 hspb; obtain ⟨K, rfl, rfl, rfl, rfl, hKa, rfl, rfl, hKl, hWS⟩ : ∃ K : Wc, K.gw = g1 ∧ K.gb = g0 ∧ K.n = m ∧ K.o = o ∧ K.qa = a ∧ K.qn = n ∧ K.qc = c ∧ K.l = layT f ds ∧ WrS K W8 0 (List.replicate m 0) := ⟨_, rfl, rfl, rfl, rfl, rfl, rfl, rfl, rfl, hWS⟩; have hzK : ShR w K.qa K.qn K.qc zs := by rw [hKa]; exact hz'.out
    have hzK' := Lib.hid hzK; have hKa' := Lib.hid hKa; clear hzK hKa; obtain ⟨w9, hr9, hws9, hm9⟩ := page_str hWS ⟨#[77, 77]⟩ [77, 77] rfl rfl (by show 2 ≤ K.n; omega) 9 3; have hwl8 := bA8.lt; have bA9 := Mv.blk hm9 bA8 (by omega) (by omega); have c0 : w9.cell? ⟨w.heap.size, 0, none⟩ = some (.int .i64 K.o) := bA9.cell rfl; have d0 : W8.cell? ⟨K.gw, 0, none⟩ = some (.slice (some ⟨K.gb, 0, none⟩) K.n K.n) := hWS.blk.cell rfl; rw [← hW8] at d0 hr9; have d9 : w9.cell? ⟨K.gw, 0, none⟩ = some (.slice (some ⟨K.gb, 0, none⟩) K.n K.n) := hws9.blk.cell rfl
    have hpk : putOk 42 2 K.o = true := by
      rcases hO'.out.ord with h | h <;> rw [h] <;> decide
    have hpl := putS_length hpk
    by_cases ho1 : K.o = 1
    · have e1 : (K.o == 1) = true := by simp [ho1]
      obtain ⟨w10, hr10, hws10, hm10⟩ := page_str hws9 ⟨#[73, 73]⟩ [73, 73] rfl rfl (by show 2 ≤ K.n; omega) 9 3; have hPp := pgput_any K w10 0 _ hws10 2 42 2 hpk (by rw [hpl]; decide) (by rw [hpl, show (2 : Int).toNat = 2 from rfl]; omega); have hsg : apP (signP K.o) (List.replicate K.n 0) = splice (splice (List.replicate K.n 0) 0 [77, 77]) 0 [73, 73] := by unfold signP; rw [if_pos ho1]; rfl
      have bA10 := Mv.blk hm10 bA9 (by omega) (by omega); have hm10 := (hm9.trans hm10); have hWS' := Lib.hid hWS; have bA8' := Lib.hid bA8; have hKl' := Lib.hid hKl; have hws9' := Lib.hid hws9; have hm9' := Lib.hid hm9; have bA9' := Lib.hid bA9; have hW8' := Lib.hid hW8; have hbw8' := Lib.hid hbw8; have hpk' := Lib.hid hpk; have hpl' := Lib.hid hpl; have hws10' := Lib.hid hws10; have bA10' := Lib.hid bA10; have hPp' := Lib.hid hPp; have hsg' := Lib.hid hsg; have ho1' := Lib.hid ho1; have hm10' := Lib.hid hm10; clear hWS bA8 hKl hws9 hm9 bA9 hW8 hbw8 hpk hpl hws10 bA10 hPp hsg ho1 hm10
      go_wp2_with (at_builtin; first | (refine wpList_copy_run _ rfl _ _ _ _ rfl _ _ rfl rfl hr9 ?_; clear hr9) | refine wpList_copy_run _ rfl _ _ _ _ rfl _ _ rfl rfl hr10 ?_)
      clear hr10 d0 d9 c0; refine hPp'.out.mono ?_; rintro e w11 ⟨rfl, hws11, hm11⟩; have bA11 := Mv.blk hm11 bA10'.out (by omega) (by omega); have hm12 := hm10'.out.trans hm11; obtain ⟨P2, hP2⟩ : ∃ P2, apP (signP K.o) (List.replicate K.n 0) = P2 := ⟨_, rfl⟩; rw [← hsg'.out, hP2] at hws11; obtain ⟨P3, hP3⟩ : ∃ P3, splice P2 2 (putS 42 2 K.o) = P3 := ⟨_, rfl⟩; rw [hP3] at hws11
      have hWt : WB = apP (chW (shps zs) K.l K.o f ds ds.length) P3 := by
        rw [hwr'.out, treeW_eq, hm'.out, Int.toNat_natCast, hP2, hP3, hKl'.out]
      obtain ⟨dvs, hdl, hsl, hsub⟩ := h'.out; have hdn : ds.length = sn := by rw [← hdl]; exact hsl.flen dvC_len (by decide)
      have c1 : w11.cell? ⟨w.heap.size, 1, none⟩ = some (.slice sa sn sc) := bA11.cell rfl; have hms := hm12.size; have hzl : (shps zs).length = K.qn := by unfold shps; rw [List.length_map]; exact hz'.out.len
      have hqm := hz'.out.row.max; have hql := hz'.out.row.le; have bA11' := Lib.hid bA11; have hm12' := Lib.hid hm12; have hP2' := Lib.hid hP2; have hP3' := Lib.hid hP3; have hWt' := Lib.hid hWt; have hdl' := Lib.hid hdl; have hsl' := Lib.hid hsl; have hsub' := Lib.hid hsub; have hdn' := Lib.hid hdn; have hws11' := Lib.hid hws11; have hm11' := Lib.hid hm11; have hzl' := Lib.hid hzl; clear bA11 hm12 hP2 hP3 hWt hdl hsl hsub hdn hws11 hm11 hzl
      go_wp2_with fail
      clear c1
      go_loopw [8, 9, 58] (fun sv lv iv wr => ∃ k : Nat, k ≤ sn ∧ sv = .int .i64 (nxtS (shps zs) k) ∧ lv = .int .i64 (lnkT K.l f ds k) ∧ iv = .int .i64 k ∧ Hid (WrS K wr (noT f ds k) (apP (chW (shps zs) K.l K.o f ds k) P3)) ∧ Hid (Mv K.gw K.gb nilV nilV W8 wr)) (fun _ _ iv _ => sn - (intOf iv).toNat)
      case atStart =>
        exact ⟨0, by omega, rfl, rfl, rfl, hws11', hm12'⟩
      case round =>
        obtain ⟨k, hk, rfl, rfl, rfl, hws, hmv⟩ := hrel
        by_cases hlt : k < sn
        · have hil : (k : Int) < (sn : Int) := by omega
          have hw1 : IntKind.i64.wrap ((k : Int) + 1) = k + 1 := by rw [IntKind.wrap_i64]; omega
          have hid : k < ds.length := by rw [hdn'.out]; exact hlt
          have hids : k < dvs.length := by rw [hdl'.out]; exact hid
          have hbr : Below w.heap.size w wr := hbw8'.out.trans (hmv.out.below (B := w.heap.size) (by omega) (by omega) (fun k e => by cases e) hbw8'.out.size); obtain ⟨b, o2, rfl, hblt, fe⟩ := (hsl'.out.mono hbr).elem dvC_len (by decide) dzz hlt; rw [getD_el hids] at fe; have hq2 := hsub'.out k hids hid; obtain ⟨ua, un, uc, ra, rn, rc, ya, yn, yc, hv⟩ := hq2.v; have g0 := fe 0 _ rfl; have g1 := fe 1 _ rfl; have g2 := fe 2 _ rfl; clear fe; rw [hv] at hq2 g0 g1 g2; simp only [Nat.add_zero] at g0 g1 g2; have hgi : ds.getD k (dirZ f) = ds[k] := getD_el hid _; have hsm := hs'.out _ (List.getElem_mem hid); have hbd := hby'.out _ (List.getElem_mem hid); have hnx := hO'.out.nx k hid; have hdk := hO'.out.dir k hid; have hlk := hO'.out.lnk k hid; have hpk2 := hO'.out.pk k hid; rw [← hKl'.out] at hdk hlk hpk2; rw [hm'.out, Int.toNat_natCast] at hdk hlk; have hnl := nxt_lt hO'.out.shp k; rw [hzl'.out] at hnl; have hNs := noT_step f ds hid; have hNl := noT_le f ds k; have hNl2 := noT_le f ds (k + 1); have hNN := hN'.out; have hCs := chW_step (shps zs) K.l K.o f ds k; have hLs : lnkT K.l f ds (k + 1) = atS K.l 2 (noT f ds k) 0 + 2 + 12 * (entD f (ds.getD k (dirZ f)) : Nat) := rfl; have hXs : nxtS (shps zs) (k + 1) = ((shps zs).getD (nxtS (shps zs) k).toNat shp0).2.2.2 := rfl; obtain ⟨hen, he1, he2, he3⟩ := dirR_ent hq2 hsm; rw [hgi] at hdk hNs hCs hLs; obtain ⟨ns, hns⟩ : ∃ x, noT f ds k = x := ⟨_, rfl⟩; rw [hns] at hdk hpk2 hNs hNl hCs hLs hws; obtain ⟨ik, hik⟩ : ∃ x : Nat, nxtS (shps zs) k = x := ⟨(nxtS (shps zs) k).toNat, by omega⟩; rw [hik] at hdk hnl hCs hXs ⊢; obtain ⟨lk, hlke⟩ : ∃ x : Nat, lnkT K.l f ds k = x := ⟨(lnkT K.l f ds k).toNat, by omega⟩; rw [hlke] at hlk hCs ⊢; rw [Int.toNat_natCast] at hlk hCs; obtain ⟨at_, hat⟩ : ∃ x, atS K.l 2 ns 0 = x := ⟨_, rfl⟩; rw [hat] at hpk2 hCs hLs; rw [hen] at hLs; obtain ⟨dd, hdd⟩ : ∃ dd, ds[k] = dd := ⟨_, rfl⟩; rw [hdd] at hq2 hsm hbd hdk hNs hCs; have hal := (Below.refl wr.heap.size wr).alloc (Nat.le_refl _) (.cells #[.slice ua un uc, .slice ra rn rc, .slice ya yn yc] 26); have bD := Blk.new wr 26 #[.slice ua un uc, .slice ra rn rc, .slice ya yn yc]; have hws1 := hws.out.later hal; have hD := pw_any zs K f w _ ns _ dd (.slice ua un uc, .slice ra rn rc, .slice ya yn yc) ik hws1 hzK'.out (hbr.trans (hal.mono hbr.size)) (by omega) (by omega) hq2 hsm hbd hO'.out.shp hdk (by omega) (by omega) (by omega) (by omega); rw [hat] at hD; simp only at hD; have hin : (ik : Int) < (K.qn : Int) := by omega
          have hik0 : (0 : Int) ≤ (ik : Int) := by omega
          have hpl2 := putS_length hpk2; have hwl := hmv.out.size; obtain ⟨hgwl, hgbl⟩ := hws.out.ne_of; have hbr' := Lib.hid hbr; have hq2' := Lib.hid hq2; have hv' := Lib.hid hv; have hgi' := Lib.hid hgi; have hsm' := Lib.hid hsm; have hbd' := Lib.hid hbd; have hdk' := Lib.hid hdk; have hpk2' := Lib.hid hpk2; have hNs' := Lib.hid hNs; have hCs' := Lib.hid hCs; have hLs' := Lib.hid hLs; have hXs' := Lib.hid hXs; have hen' := Lib.hid hen; have hns' := Lib.hid hns; have hik' := Lib.hid hik; have hlke' := Lib.hid hlke; have hat' := Lib.hid hat; have hdd' := Lib.hid hdd; have hal' := Lib.hid hal; have bD' := Lib.hid bD; have hws1' := Lib.hid hws1; have hD' := Lib.hid hD; have hpl2' := Lib.hid hpl2; clear hbr hq2 hv hgi hsm hbd hdk hpk2 hNs hCs hLs hXs hen hns hik hlke hat hdd hal bD hws1 hD hpl2
          go_wp2_with fail
          refine hD'.out.mono ?_; rintro e w12 ⟨rfl, hws12, hm12⟩; have bD12 := Mv.blk hm12 bD'.out (by omega) (by omega); have hPp := pgput_any K w12 _ _ hws12 lk at_ 4 hpk2'.out (by rw [hpl2'.out]; decide) (by rw [hpl2'.out, show (4 : Int).toNat = 4 from rfl]; omega); have hws12' := Lib.hid hws12; have hm12' := Lib.hid hm12; have bD12' := Lib.hid bD12; have hPp' := Lib.hid hPp; clear hws12 hm12 bD12 hPp; clear g0 g1 g2
          go_wp2_with fail
          refine hPp'.out.mono ?_; rintro e w13 ⟨rfl, hws13, hm13⟩; have bD13 := Mv.blk hm13 bD12'.out (by omega) (by omega); have hmv13 := ((hmv.out.later hal'.out).trans hm12'.out).trans hm13; have hb13 : Below w.heap.size w w13 := hbw8'.out.trans (hmv13.below (B := w.heap.size) (by omega) (by omega) (fun k e => by cases e) hbw8'.out.size); obtain ⟨b3, o3, ha3, hblt3, fe⟩ := hz'.out.row.elem shc_len (by decide) shz0 (show ik < K.qn by omega); subst ha3; rw [Int.toNat_natCast, shps_get (by rw [hz'.out.len]; omega)] at hXs'; have l3 := late hb13 hblt3 (fe 3 _ rfl); rw [← hXs'.out] at l3; clear fe; obtain ⟨gD, hgD⟩ : ∃ gD, wr.heap.size = gD := ⟨_, rfl⟩; rw [hgD] at bD13 ⊢; obtain ⟨xs, hxs⟩ : ∃ x, nxtS (shps zs) (k + 1) = x := ⟨_, rfl⟩; rw [hxs] at l3; have hC13 : Blk w13 gD 26 #[.slice ua un uc, .slice ra rn rc, .slice ya yn yc] ∧ w13.cell? ⟨b3, o3 + ik * 4 + 3, none⟩ = some (.int .i64 xs) := ⟨bD13, l3⟩; have hqt := (Below.refl w13.heap.size w13).drew; obtain ⟨Ty, ff, hne, hcl, hsurj⟩ := pred_worlds (fun W => Blk W gD 26 #[.slice ua un uc, .slice ra rn rc, .slice ya yn yc] ∧ W.cell? ⟨b3, o3 + ik * 4 + 3, none⟩ = some (.int .i64 xs)) w13 hC13; have HS := Lib.hid (hsurj w13.drew ⟨bD13.late hqt, l3⟩); have q0 : ∀ s, (ff s).cell? ⟨gD, 0, none⟩ = some (.slice ua un uc) := fun s => (hcl s).1.cell rfl; have q1 : ∀ s, (ff s).cell? ⟨gD, 1, none⟩ = some (.slice ra rn rc) := fun s => (hcl s).1.cell rfl; have q2 : ∀ s, (ff s).cell? ⟨gD, 2, none⟩ = some (.slice ya yn yc) := fun s => (hcl s).1.cell rfl; have q3 : ∀ s, (ff s).cell? ⟨b3, o3 + ik * 4 + 3, none⟩ = some (.int .i64 xs) := fun s => (hcl s).2; have bDD := bD13.late hqt; have hwsD := hws13.later hqt; have hmvD := hmv13.later hqt; have hbD := hb13.trans (hqt.mono hb13.size); have l3D : w13.drew.cell? ⟨b3, o3 + ik * 4 + 3, none⟩ = some (.int .i64 xs) := l3; obtain ⟨wD, hwD⟩ : ∃ wD, w13.drew = wD := ⟨_, rfl⟩; rw [hwD] at HS bDD hwsD hmvD l3D hbD; have hE := ent_any ua ra ya un uc rn rc yn yc wD (by omega) (by omega); obtain ⟨ne, hne2⟩ : ∃ x, entN un rn yn = x := ⟨_, rfl⟩; have hnel : ne ≤ 1002 := by rw [← hne2]; exact entN_le he1 he2
          rw [hne2] at hE hLs'; have hpa := hpk2'.out
          have hat0 : 0 ≤ at_ ∧ at_ < 4294967296 := by
            unfold putOk at hpa; simp only [Bool.and_eq_true, decide_eq_true_eq] at hpa; have : topS 4 = 4294967296 := by decide
            omega
          have hw2 : IntKind.i64.wrap (at_ + 2) = at_ + 2 := by rw [IntKind.wrap_i64]; omega
          have hw3 : IntKind.i64.wrap (12 * (ne : Int)) = 12 * ne := by rw [IntKind.wrap_i64]; omega
          have hw4 : IntKind.i64.wrap (at_ + 2 + 12 * (ne : Int)) = at_ + 2 + 12 * ne := by rw [IntKind.wrap_i64]; omega
          clear hpa l3; have hws13' := Lib.hid hws13; have hm13' := Lib.hid hm13; have bD13' := Lib.hid bD13; have hmv13' := Lib.hid hmv13; have hb13' := Lib.hid hb13; have hxs' := Lib.hid hxs; have hC13' := Lib.hid hC13; have hqt' := Lib.hid hqt; have hcl' := Lib.hid hcl; have hsurj' := Lib.hid hsurj; have bDD' := Lib.hid bDD; have hwsD' := Lib.hid hwsD; have hmvD' := Lib.hid hmvD; have hbD' := Lib.hid hbD; have l3D' := Lib.hid l3D; have hE' := Lib.hid hE; have hne2' := Lib.hid hne2; clear hws13 hm13 bD13 hmv13 hb13 hxs hC13 hqt hcl hsurj bDD hwsD hmvD hbD l3D hE hne2
          go_wp2_with fail
          refine held_begin (S := fun W => ∃ s, W = ff s) (by kernel_rfl) 13 rfl ?_; rw [hwD]; refine held_take [0, 1, 2, 6, 7, 8, 9, 10] 5 (by kernel_rfl) (fun d _ _ _ _ h => by cases d <;> exact h) (by kernel_rfl) (by kernel_rfl) (by kernel_rfl) HS.out ?_; simp only [pickL, List.map_cons, List.map_nil, List.getD_cons_succ, List.getD_cons_zero]
          iterate 8 (go_big_quiet_step (fail))
          refine wpQuiet_nil ?_; clear q0 q1 q2 q3 hwD; refine held_one 3 4 (by kernel_rfl) (by kernel_rfl) ?_; simp only [pickL, List.map_cons, List.map_nil, List.getD_cons_succ, List.getD_cons_zero]
          go_wp2_with fail
          refine hE'.out.mono ?_; rintro e w15 ⟨rfl, hb15⟩; have hws15 := hwsD'.out.later hb15; have hmv15 := hmvD'.out.later hb15; have HS := Lib.hid (hsurj'.out _ ⟨bDD'.out.late hb15, late hb15 (p := ⟨b3, o3 + ik * 4 + 3, none⟩) (by show b3 < _; have := hbD'.out.size; omega) l3D'.out⟩); have hb15' := Lib.hid hb15; have hws15' := Lib.hid hws15; have hmv15' := Lib.hid hmv15; clear hb15 hws15 hmv15
          go_wp2_with fail
          first | refine Mid.mk ⟨HS.out, ?_⟩ | refine Mid.mk ?_
          refine held_take [4, 5, 11, 12] 0 (by kernel_rfl) (fun d _ _ _ _ h => by cases d <;> exact h) (by kernel_rfl) (by kernel_rfl) (by kernel_rfl) HS.out ?_; simp only [pickL, List.map_cons, List.map_nil, List.getD_cons_succ, List.getD_cons_zero]
          iterate 4 (go_big_quiet_step (fail))
          refine wpQuiet_nil ?_; refine held_last (by kernel_rfl) ?_
          have hws16 : WrS K w15 (noT f ds (k + 1)) (apP (chW (shps zs) K.l K.o f ds (k + 1)) P3) := by
            rw [hNs'.out, hCs'.out, apP_append, apP_append]; exact hws15'.out
          have hws16' := Lib.hid hws16; clear hws16
          go_wp2_with fail
          go_roundw
          case rel => exact ⟨k + 1, by omega, by rw [hxs'.out], by rw [hLs'.out], by go_num, hws16', hmv15'⟩
          case measure => simp [intOf]; omega
        · obtain rfl : k = sn := by omega
          rw [← hdn'.out, ← hWt'.out] at hws; have c0 : wr.cell? ⟨K.gw, 0, none⟩ = some (.slice (some ⟨K.gb, 0, none⟩) K.n K.n) := hws.out.blk.cell rfl; have hbz : Below w.heap.size w wr := hbw8'.out.trans (hmv.out.below (B := w.heap.size) (by omega) (by omega) (fun k e => by cases e) hbw8'.out.size); have hown := (hws.out.row.own hws.out.len (B := w.heap.size) (by omega) (by unfold maxLen; omega)); have hbz' := Lib.hid hbz; have hown' := Lib.hid hown; clear hbz hown
          go_wp2_with fail
          refine bodyPost_ret (results_tmp2 rfl _ _ _) rfl ?_; exact ⟨_, _, _, rfl, hown'.out, hbz'.out⟩
    · have e1 : (K.o == 1) = false := by simp [ho1]
      have hPp := pgput_any K w9 0 _ hws9 2 42 2 hpk (by rw [hpl]; decide) (by rw [hpl, show (2 : Int).toNat = 2 from rfl]; omega); have hsg : apP (signP K.o) (List.replicate K.n 0) = splice (List.replicate K.n 0) 0 [77, 77] := by unfold signP; rw [if_neg ho1]; rfl
      have bA10 := bA9; have hm10 := hm9; have hWS' := Lib.hid hWS; have bA8' := Lib.hid bA8; have hKl' := Lib.hid hKl; have hws9' := Lib.hid hws9; have hm9' := Lib.hid hm9; have bA9' := Lib.hid bA9; have hW8' := Lib.hid hW8; have hbw8' := Lib.hid hbw8; have hpk' := Lib.hid hpk; have hpl' := Lib.hid hpl; have bA10' := Lib.hid bA10; have hPp' := Lib.hid hPp; have hsg' := Lib.hid hsg; have ho1' := Lib.hid ho1; have hm10' := Lib.hid hm10; clear hWS bA8 hKl hws9 hm9 bA9 hW8 hbw8 hpk hpl bA10 hPp hsg ho1 hm10
      go_wp2_with (at_builtin; refine wpList_copy_run _ rfl _ _ _ _ rfl _ _ rfl rfl hr9 ?_; clear hr9)
      clear d0 d9 c0; refine hPp'.out.mono ?_; rintro e w11 ⟨rfl, hws11, hm11⟩; have bA11 := Mv.blk hm11 bA10'.out (by omega) (by omega); have hm12 := hm10'.out.trans hm11; obtain ⟨P2, hP2⟩ : ∃ P2, apP (signP K.o) (List.replicate K.n 0) = P2 := ⟨_, rfl⟩; rw [← hsg'.out, hP2] at hws11; obtain ⟨P3, hP3⟩ : ∃ P3, splice P2 2 (putS 42 2 K.o) = P3 := ⟨_, rfl⟩; rw [hP3] at hws11
      have hWt : WB = apP (chW (shps zs) K.l K.o f ds ds.length) P3 := by
        rw [hwr'.out, treeW_eq, hm'.out, Int.toNat_natCast, hP2, hP3, hKl'.out]
      obtain ⟨dvs, hdl, hsl, hsub⟩ := h'.out; have hdn : ds.length = sn := by rw [← hdl]; exact hsl.flen dvC_len (by decide)
      have c1 : w11.cell? ⟨w.heap.size, 1, none⟩ = some (.slice sa sn sc) := bA11.cell rfl; have hms := hm12.size; have hzl : (shps zs).length = K.qn := by unfold shps; rw [List.length_map]; exact hz'.out.len
      have hqm := hz'.out.row.max; have hql := hz'.out.row.le; have bA11' := Lib.hid bA11; have hm12' := Lib.hid hm12; have hP2' := Lib.hid hP2; have hP3' := Lib.hid hP3; have hWt' := Lib.hid hWt; have hdl' := Lib.hid hdl; have hsl' := Lib.hid hsl; have hsub' := Lib.hid hsub; have hdn' := Lib.hid hdn; have hws11' := Lib.hid hws11; have hm11' := Lib.hid hm11; have hzl' := Lib.hid hzl; clear bA11 hm12 hP2 hP3 hWt hdl hsl hsub hdn hws11 hm11 hzl
      go_wp2_with fail
      clear c1
      go_loopw [8, 9, 58] (fun sv lv iv wr => ∃ k : Nat, k ≤ sn ∧ sv = .int .i64 (nxtS (shps zs) k) ∧ lv = .int .i64 (lnkT K.l f ds k) ∧ iv = .int .i64 k ∧ Hid (WrS K wr (noT f ds k) (apP (chW (shps zs) K.l K.o f ds k) P3)) ∧ Hid (Mv K.gw K.gb nilV nilV W8 wr)) (fun _ _ iv _ => sn - (intOf iv).toNat)
      case atStart =>
        exact ⟨0, by omega, rfl, rfl, rfl, hws11', hm12'⟩
      case round =>
        obtain ⟨k, hk, rfl, rfl, rfl, hws, hmv⟩ := hrel
        by_cases hlt : k < sn
        · have hil : (k : Int) < (sn : Int) := by omega
          have hw1 : IntKind.i64.wrap ((k : Int) + 1) = k + 1 := by rw [IntKind.wrap_i64]; omega
          have hid : k < ds.length := by rw [hdn'.out]; exact hlt
          have hids : k < dvs.length := by rw [hdl'.out]; exact hid
          have hbr : Below w.heap.size w wr := hbw8'.out.trans (hmv.out.below (B := w.heap.size) (by omega) (by omega) (fun k e => by cases e) hbw8'.out.size); obtain ⟨b, o2, rfl, hblt, fe⟩ := (hsl'.out.mono hbr).elem dvC_len (by decide) dzz hlt; rw [getD_el hids] at fe; have hq2 := hsub'.out k hids hid; obtain ⟨ua, un, uc, ra, rn, rc, ya, yn, yc, hv⟩ := hq2.v; have g0 := fe 0 _ rfl; have g1 := fe 1 _ rfl; have g2 := fe 2 _ rfl; clear fe; rw [hv] at hq2 g0 g1 g2; simp only [Nat.add_zero] at g0 g1 g2; have hgi : ds.getD k (dirZ f) = ds[k] := getD_el hid _; have hsm := hs'.out _ (List.getElem_mem hid); have hbd := hby'.out _ (List.getElem_mem hid); have hnx := hO'.out.nx k hid; have hdk := hO'.out.dir k hid; have hlk := hO'.out.lnk k hid; have hpk2 := hO'.out.pk k hid; rw [← hKl'.out] at hdk hlk hpk2; rw [hm'.out, Int.toNat_natCast] at hdk hlk; have hnl := nxt_lt hO'.out.shp k; rw [hzl'.out] at hnl; have hNs := noT_step f ds hid; have hNl := noT_le f ds k; have hNl2 := noT_le f ds (k + 1); have hNN := hN'.out; have hCs := chW_step (shps zs) K.l K.o f ds k; have hLs : lnkT K.l f ds (k + 1) = atS K.l 2 (noT f ds k) 0 + 2 + 12 * (entD f (ds.getD k (dirZ f)) : Nat) := rfl; have hXs : nxtS (shps zs) (k + 1) = ((shps zs).getD (nxtS (shps zs) k).toNat shp0).2.2.2 := rfl; obtain ⟨hen, he1, he2, he3⟩ := dirR_ent hq2 hsm; rw [hgi] at hdk hNs hCs hLs; obtain ⟨ns, hns⟩ : ∃ x, noT f ds k = x := ⟨_, rfl⟩; rw [hns] at hdk hpk2 hNs hNl hCs hLs hws; obtain ⟨ik, hik⟩ : ∃ x : Nat, nxtS (shps zs) k = x := ⟨(nxtS (shps zs) k).toNat, by omega⟩; rw [hik] at hdk hnl hCs hXs ⊢; obtain ⟨lk, hlke⟩ : ∃ x : Nat, lnkT K.l f ds k = x := ⟨(lnkT K.l f ds k).toNat, by omega⟩; rw [hlke] at hlk hCs ⊢; rw [Int.toNat_natCast] at hlk hCs; obtain ⟨at_, hat⟩ : ∃ x, atS K.l 2 ns 0 = x := ⟨_, rfl⟩; rw [hat] at hpk2 hCs hLs; rw [hen] at hLs; obtain ⟨dd, hdd⟩ : ∃ dd, ds[k] = dd := ⟨_, rfl⟩; rw [hdd] at hq2 hsm hbd hdk hNs hCs; have hal := (Below.refl wr.heap.size wr).alloc (Nat.le_refl _) (.cells #[.slice ua un uc, .slice ra rn rc, .slice ya yn yc] 26); have bD := Blk.new wr 26 #[.slice ua un uc, .slice ra rn rc, .slice ya yn yc]; have hws1 := hws.out.later hal; have hD := pw_any zs K f w _ ns _ dd (.slice ua un uc, .slice ra rn rc, .slice ya yn yc) ik hws1 hzK'.out (hbr.trans (hal.mono hbr.size)) (by omega) (by omega) hq2 hsm hbd hO'.out.shp hdk (by omega) (by omega) (by omega) (by omega); rw [hat] at hD; simp only at hD; have hin : (ik : Int) < (K.qn : Int) := by omega
          have hik0 : (0 : Int) ≤ (ik : Int) := by omega
          have hpl2 := putS_length hpk2; have hwl := hmv.out.size; obtain ⟨hgwl, hgbl⟩ := hws.out.ne_of; have hbr' := Lib.hid hbr; have hq2' := Lib.hid hq2; have hv' := Lib.hid hv; have hgi' := Lib.hid hgi; have hsm' := Lib.hid hsm; have hbd' := Lib.hid hbd; have hdk' := Lib.hid hdk; have hpk2' := Lib.hid hpk2; have hNs' := Lib.hid hNs; have hCs' := Lib.hid hCs; have hLs' := Lib.hid hLs; have hXs' := Lib.hid hXs; have hen' := Lib.hid hen; have hns' := Lib.hid hns; have hik' := Lib.hid hik; have hlke' := Lib.hid hlke; have hat' := Lib.hid hat; have hdd' := Lib.hid hdd; have hal' := Lib.hid hal; have bD' := Lib.hid bD; have hws1' := Lib.hid hws1; have hD' := Lib.hid hD; have hpl2' := Lib.hid hpl2; clear hbr hq2 hv hgi hsm hbd hdk hpk2 hNs hCs hLs hXs hen hns hik hlke hat hdd hal bD hws1 hD hpl2
          go_wp2_with fail
          refine hD'.out.mono ?_; rintro e w12 ⟨rfl, hws12, hm12⟩; have bD12 := Mv.blk hm12 bD'.out (by omega) (by omega); have hPp := pgput_any K w12 _ _ hws12 lk at_ 4 hpk2'.out (by rw [hpl2'.out]; decide) (by rw [hpl2'.out, show (4 : Int).toNat = 4 from rfl]; omega); have hws12' := Lib.hid hws12; have hm12' := Lib.hid hm12; have bD12' := Lib.hid bD12; have hPp' := Lib.hid hPp; clear hws12 hm12 bD12 hPp; clear g0 g1 g2
          go_wp2_with fail
          refine hPp'.out.mono ?_; rintro e w13 ⟨rfl, hws13, hm13⟩; have bD13 := Mv.blk hm13 bD12'.out (by omega) (by omega); have hmv13 := ((hmv.out.later hal'.out).trans hm12'.out).trans hm13; have hb13 : Below w.heap.size w w13 := hbw8'.out.trans (hmv13.below (B := w.heap.size) (by omega) (by omega) (fun k e => by cases e) hbw8'.out.size); obtain ⟨b3, o3, ha3, hblt3, fe⟩ := hz'.out.row.elem shc_len (by decide) shz0 (show ik < K.qn by omega); subst ha3; rw [Int.toNat_natCast, shps_get (by rw [hz'.out.len]; omega)] at hXs'; have l3 := late hb13 hblt3 (fe 3 _ rfl); rw [← hXs'.out] at l3; clear fe; obtain ⟨gD, hgD⟩ : ∃ gD, wr.heap.size = gD := ⟨_, rfl⟩; rw [hgD] at bD13 ⊢; obtain ⟨xs, hxs⟩ : ∃ x, nxtS (shps zs) (k + 1) = x := ⟨_, rfl⟩; rw [hxs] at l3; have hC13 : Blk w13 gD 26 #[.slice ua un uc, .slice ra rn rc, .slice ya yn yc] ∧ w13.cell? ⟨b3, o3 + ik * 4 + 3, none⟩ = some (.int .i64 xs) := ⟨bD13, l3⟩; have hqt := (Below.refl w13.heap.size w13).drew; obtain ⟨Ty, ff, hne, hcl, hsurj⟩ := pred_worlds (fun W => Blk W gD 26 #[.slice ua un uc, .slice ra rn rc, .slice ya yn yc] ∧ W.cell? ⟨b3, o3 + ik * 4 + 3, none⟩ = some (.int .i64 xs)) w13 hC13; have HS := Lib.hid (hsurj w13.drew ⟨bD13.late hqt, l3⟩); have q0 : ∀ s, (ff s).cell? ⟨gD, 0, none⟩ = some (.slice ua un uc) := fun s => (hcl s).1.cell rfl; have q1 : ∀ s, (ff s).cell? ⟨gD, 1, none⟩ = some (.slice ra rn rc) := fun s => (hcl s).1.cell rfl; have q2 : ∀ s, (ff s).cell? ⟨gD, 2, none⟩ = some (.slice ya yn yc) := fun s => (hcl s).1.cell rfl; have q3 : ∀ s, (ff s).cell? ⟨b3, o3 + ik * 4 + 3, none⟩ = some (.int .i64 xs) := fun s => (hcl s).2; have bDD := bD13.late hqt; have hwsD := hws13.later hqt; have hmvD := hmv13.later hqt; have hbD := hb13.trans (hqt.mono hb13.size); have l3D : w13.drew.cell? ⟨b3, o3 + ik * 4 + 3, none⟩ = some (.int .i64 xs) := l3; obtain ⟨wD, hwD⟩ : ∃ wD, w13.drew = wD := ⟨_, rfl⟩; rw [hwD] at HS bDD hwsD hmvD l3D hbD; have hE := ent_any ua ra ya un uc rn rc yn yc wD (by omega) (by omega); obtain ⟨ne, hne2⟩ : ∃ x, entN un rn yn = x := ⟨_, rfl⟩; have hnel : ne ≤ 1002 := by rw [← hne2]; exact entN_le he1 he2
          rw [hne2] at hE hLs'; have hpa := hpk2'.out
          have hat0 : 0 ≤ at_ ∧ at_ < 4294967296 := by
            unfold putOk at hpa; simp only [Bool.and_eq_true, decide_eq_true_eq] at hpa; have : topS 4 = 4294967296 := by decide
            omega
          have hw2 : IntKind.i64.wrap (at_ + 2) = at_ + 2 := by rw [IntKind.wrap_i64]; omega
          have hw3 : IntKind.i64.wrap (12 * (ne : Int)) = 12 * ne := by rw [IntKind.wrap_i64]; omega
          have hw4 : IntKind.i64.wrap (at_ + 2 + 12 * (ne : Int)) = at_ + 2 + 12 * ne := by rw [IntKind.wrap_i64]; omega
          clear hpa l3; have hws13' := Lib.hid hws13; have hm13' := Lib.hid hm13; have bD13' := Lib.hid bD13; have hmv13' := Lib.hid hmv13; have hb13' := Lib.hid hb13; have hxs' := Lib.hid hxs; have hC13' := Lib.hid hC13; have hqt' := Lib.hid hqt; have hcl' := Lib.hid hcl; have hsurj' := Lib.hid hsurj; have bDD' := Lib.hid bDD; have hwsD' := Lib.hid hwsD; have hmvD' := Lib.hid hmvD; have hbD' := Lib.hid hbD; have l3D' := Lib.hid l3D; have hE' := Lib.hid hE; have hne2' := Lib.hid hne2; clear hws13 hm13 bD13 hmv13 hb13 hxs hC13 hqt hcl hsurj bDD hwsD hmvD hbD l3D hE hne2
          go_wp2_with fail
          refine held_begin (S := fun W => ∃ s, W = ff s) (by kernel_rfl) 13 rfl ?_; rw [hwD]; refine held_take [0, 1, 2, 6, 7, 8, 9, 10] 5 (by kernel_rfl) (fun d _ _ _ _ h => by cases d <;> exact h) (by kernel_rfl) (by kernel_rfl) (by kernel_rfl) HS.out ?_; simp only [pickL, List.map_cons, List.map_nil, List.getD_cons_succ, List.getD_cons_zero]
          iterate 8 (go_big_quiet_step (fail))
          refine wpQuiet_nil ?_; clear q0 q1 q2 q3 hwD; refine held_one 3 4 (by kernel_rfl) (by kernel_rfl) ?_; simp only [pickL, List.map_cons, List.map_nil, List.getD_cons_succ, List.getD_cons_zero]
          go_wp2_with fail
          refine hE'.out.mono ?_; rintro e w15 ⟨rfl, hb15⟩; have hws15 := hwsD'.out.later hb15; have hmv15 := hmvD'.out.later hb15; have HS := Lib.hid (hsurj'.out _ ⟨bDD'.out.late hb15, late hb15 (p := ⟨b3, o3 + ik * 4 + 3, none⟩) (by show b3 < _; have := hbD'.out.size; omega) l3D'.out⟩); have hb15' := Lib.hid hb15; have hws15' := Lib.hid hws15; have hmv15' := Lib.hid hmv15; clear hb15 hws15 hmv15
          go_wp2_with fail
          first | refine Mid.mk ⟨HS.out, ?_⟩ | refine Mid.mk ?_
          refine held_take [4, 5, 11, 12] 0 (by kernel_rfl) (fun d _ _ _ _ h => by cases d <;> exact h) (by kernel_rfl) (by kernel_rfl) (by kernel_rfl) HS.out ?_; simp only [pickL, List.map_cons, List.map_nil, List.getD_cons_succ, List.getD_cons_zero]
          iterate 4 (go_big_quiet_step (fail))
          refine wpQuiet_nil ?_; refine held_last (by kernel_rfl) ?_
          have hws16 : WrS K w15 (noT f ds (k + 1)) (apP (chW (shps zs) K.l K.o f ds (k + 1)) P3) := by
            rw [hNs'.out, hCs'.out, apP_append, apP_append]; exact hws15'.out
          have hws16' := Lib.hid hws16; clear hws16
          go_wp2_with fail
          go_roundw
          case rel => exact ⟨k + 1, by omega, by rw [hxs'.out], by rw [hLs'.out], by go_num, hws16', hmv15'⟩
          case measure => simp [intOf]; omega
        · obtain rfl : k = sn := by omega
          rw [← hdn'.out, ← hWt'.out] at hws; have c0 : wr.cell? ⟨K.gw, 0, none⟩ = some (.slice (some ⟨K.gb, 0, none⟩) K.n K.n) := hws.out.blk.cell rfl; have hbz : Below w.heap.size w wr := hbw8'.out.trans (hmv.out.below (B := w.heap.size) (by omega) (by omega) (fun k e => by cases e) hbw8'.out.size); have hown := (hws.out.row.own hws.out.len (B := w.heap.size) (by omega) (by unfold maxLen; omega)); have hbz' := Lib.hid hbz; have hown' := Lib.hid hown; clear hbz hown
          go_wp2_with fail
          refine bodyPost_ret (results_tmp2 rfl _ _ _) rfl ?_; exact ⟨_, _, _, rfl, hown'.out, hbz'.out⟩
  · rw [if_neg hR0] at hwr'
    obtain rfl := hwr'.out; have hz1 : (R != 0) = true := by simp [hR0]
    have hb2' := Lib.hid hb2; have bA2' := Lib.hid bA2; have hbw2' := Lib.hid hbw2; clear hb2 bA2 hbw2
    go_wp2_with fail
    refine bodyPost_ret (results_tmp2 rfl _ _ _) rfl ?_; exact ⟨none, 0, 0, rfl, own_nil _ _ _ _, hbw2'.out⟩
end Go.Proofs.YtceclmpmpldmlaaGreat
