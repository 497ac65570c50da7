/- Chapter 22: the law WalkBack: the walk. -/
import Derived.Test.YtilennmeiaehnaaGreatCb31
import Derived.Test.YtilennmeiaehnaaGreatCb38
import Derived.Test.YtilennmeiaehnaaGreatCb28
import Derived.Test.YtilennmeiaehnaaGreatCb30
import Derived.Test.YtilennmeiaehnaaGreatCb11
namespace Go.Proofs.YtilennmeiaehnaaGreat
open Go.RowKit Tt
set_option linter.unusedVariables false
set_option linter.unusedSimpArgs false
theorem min_max100 (x : Int) : ∃ k : Nat, max 0 (min x 100) = (k : Int) ∧ k ≤ 100 := ⟨(max 0 (min x 100)).toNat, by omega, by omega⟩
set_option maxRecDepth 20000 in
set_option maxHeartbeats 2000000 in
theorem wback_any (hD : DirOk) (f : Nat) (o : Int) (sa : Option Addr) (sn sc : Nat) (ds0 : List (DirT f)) (a : Option Addr) (n c : Nat) (zs : List Shz) (behind : Int) (w : World)
    (h0 : DirsR f w sa sn sc ds0) (hby0 : ∀ d ∈ ds0, bytD f d) (hz : ShR w a n c zs) :
    Calls Tryz.prog 7 #[.agg #[.int .i64 o, .slice sa sn sc], .slice a n c, .int .i64 behind] w fun e w' => e = .returned (.bool true) ∧ Below w.heap.size w w' := by
  have hb1 := (Below.refl w.heap.size w).alloc (Nat.le_refl _) (.cells #[.int .i64 o, .slice sa sn sc] 24); have bA := Blk.new w 24 #[.int .i64 o, .slice sa sn sc]; obtain ⟨W1, hW1⟩ : ∃ W1, w.alloc (.cells #[.int .i64 o, .slice sa sn sc] 24) = W1 := ⟨_, rfl⟩; rw [hW1] at hb1 bA; have a0 : W1.cell? ⟨w.heap.size, 0, none⟩ = some (.int .i64 o) := bA.cell rfl; have a1 : W1.cell? ⟨w.heap.size, 1, none⟩ = some (.slice sa sn sc) := bA.cell rfl; have hH1 := huge_anyW f o sa sn sc ds0 W1 (h0.mono hb1); obtain ⟨kb, hkb, hkb100⟩ := min_max100 behind; have h0' := Lib.hid h0; have hby0' := Lib.hid hby0; have hz' := Lib.hid hz; have hW1' := Lib.hid hW1; have bA' := Lib.hid bA; have hb1' := Lib.hid hb1; have hH1' := Lib.hid hH1; clear h0 hby0 hz hW1 bA hb1 hH1
  go_enter Tryz.func7, Tryz.ntmps7
  go_wp2_with fail
  rw [hW1'.out]; refine hH1'.out.mono ?_; rintro e w2 ⟨b1, rfl, hb2, hp1⟩; have hbw2 := hb1'.out.trans (hb2.mono hb1'.out.size); have bA2 := bA'.out.late hb2; clear a0 a1
  cases b1 with
  | true =>
    have hbwz := hbw2; have hb2' := Lib.hid hb2; have hp1' := Lib.hid hp1; have hbw2' := Lib.hid hbw2; have bA2' := Lib.hid bA2; clear hb2 hp1 hbw2 bA2; have hbwz' := Lib.hid hbwz; clear hbwz
    go_wp2_with fail
    refine (awake_anyW hD _).mono ?_; rintro e w9 ⟨rfl, hb9⟩; have hbw9 := hbwz'.out.trans (hb9.mono hbwz'.out.size); have hb9' := Lib.hid hb9; have hbw9' := Lib.hid hbw9; clear hb9 hbw9
    go_wp2_with fail
    go_ret
    exact ⟨rfl, hbw9'.out⟩
  | false =>
  have hk1 := hp1 rfl; clear hp1; have hM := many_anyW a n c zs w2 (hz'.out.mono hbw2); have hb2' := Lib.hid hb2; have hbw2' := Lib.hid hbw2; have bA2' := Lib.hid bA2; have hk1' := Lib.hid hk1; have hM' := Lib.hid hM; clear hb2 hbw2 bA2 hk1 hM
  go_wp2_with fail
  refine hM'.out.mono ?_; rintro e w4 ⟨b3, rfl, rfl⟩
  cases b3 with
  | true =>
    have hbwz := hbw2'.out; have hbwz' := Lib.hid hbwz; clear hbwz
    go_wp2_with fail
    refine (awake_anyW hD _).mono ?_; rintro e w9 ⟨rfl, hb9⟩; have hbw9 := hbwz'.out.trans (hb9.mono hbwz'.out.size); have hb9' := Lib.hid hb9; have hbw9' := Lib.hid hbw9; clear hb9 hbw9
    go_wp2_with fail
    go_ret
    exact ⟨rfl, hbw9'.out⟩
  | false =>
  obtain ⟨ds, h, hby, hs, hdd, hl6, hn40⟩ := cut_tree h0'.out hby0'.out hk1'.out; have hsn : ds.length = sn := by obtain ⟨dvs, e1, e2, _⟩ := h; rw [← e1]; exact e2.flen dvC_len (by decide)
  rw [hsn] at hl6; clear hk1' h0' hby0' hH1' hM'; have hok := fun e => okt_of (f := 16) (o := o) (ds := ds) (L := shps zs) e hby
  have hWr := twrite_any 16 o sa sn sc ds a n c zs w2 (h.mono hbw2'.out) (hz'.out.mono hbw2'.out) hs hby (by omega) hl6 hok; have a0 : w2.cell? ⟨w.heap.size, 0, none⟩ = some (.int .i64 o) := bA2'.out.cell rfl; have a1 : w2.cell? ⟨w.heap.size, 1, none⟩ = some (.slice sa sn sc) := bA2'.out.cell rfl; obtain ⟨ck, hck⟩ : ∃ x, checkS 16 o ds (shps zs) = x := ⟨_, rfl⟩; obtain ⟨WB, hWB⟩ : ∃ x, wrtS 16 o ds (shps zs) = x := ⟨_, rfl⟩; have hwt : WB = if ck = 0 then treeW 16 o ds (shps zs) else [] := by rw [← hWB, ← hck]; rfl
  rw [hck, hWB] at hWr; have h' := Lib.hid h; have hby' := Lib.hid hby
  have hs' := Lib.hid hs; have hdd' := Lib.hid hdd; have hsn' := Lib.hid hsn; have hok' := Lib.hid hok; have hWr' := Lib.hid hWr; have hck' := Lib.hid hck; have hWB' := Lib.hid hWB; have hwt' := Lib.hid hwt; clear h hby hs hdd hsn hok hWr hck hWB hwt
  go_wp2_with fail
  refine hWr'.out.mono ?_; rintro e w7 ⟨a7, m7, c7, rfl, ho7, hb7⟩; have hbw7 := hbw2'.out.trans (hb7.mono hbw2'.out.size); have bA7 := bA2'.out.late hb7; have hs7 := (Sl.of_own ho7).1; have hm7 : WB.length = m7 := hs7.ilen; clear a0 a1
  by_cases hck0 : ck = 0
  · have f1 : (ck != 0) = false := by simp [hck0]
    subst hck0; rw [if_pos rfl] at hwt'; have hWt := hwt'.out; have hchk := hck'.out; have hN6 : (flatT 16 ds).length < 1000000 := by omega
    obtain ⟨hR0, hO0⟩ := back_read hchk hby'.out hN6 0; have hC0 := back_clean hchk hby'.out hN6 0; rw [List.replicate_zero, List.append_nil, ← hWt] at hR0 hO0 hC0; obtain ⟨hRk, hOk⟩ := back_read hchk hby'.out hN6 kb; have hCk := back_clean hchk hby'.out hN6 kb; rw [← hWt] at hRk hOk hCk; have hSh := fun r => back_short hchk hby'.out hN6 (r := r); have hl8 := back_len hchk hby'.out; have hByt := byt_treeW hchk hby'.out; have hlen := treeW_len hchk hby'.out; rw [← hWt, hm7] at hSh hl8; rw [← hWt] at hByt; rw [← hWt, hm7] at hlen; have hOK := hok'.out hchk
    have hbig : m7 ≤ 2000000 := by
      have hfit := hOK.fit; unfold fitT at hfit; simp only [Bool.and_eq_true] at hfit; have h1 := long_small hs'.out hdd'.out hfit.1; have h2 := (long_of (chk_of hchk).2.2.2.2.2).2.1
      omega
    have hOf := wof_any hD a7 m7 c7 WB a n c zs w7 hs7 (hz'.out.mono hbw7) hByt (by omega) (fun x e => readS_ne e); rw [hR0, hO0] at hOf; have z1 : ((0 : Int) != 0) = false := rfl; have ho7' := Lib.hid ho7; have hb7' := Lib.hid hb7; have hbw7' := Lib.hid hbw7; have bA7' := Lib.hid bA7; have hs7' := Lib.hid hs7; have hm7' := Lib.hid hm7; have hWt' := Lib.hid hWt; have hchk' := Lib.hid hchk; have hR0' := Lib.hid hR0; have hO0' := Lib.hid hO0; have hC0' := Lib.hid hC0; have hRk' := Lib.hid hRk; have hOk' := Lib.hid hOk; have hCk' := Lib.hid hCk; have hSh' := Lib.hid hSh; have hByt' := Lib.hid hByt; have hlen' := Lib.hid hlen; have hOK' := Lib.hid hOK; have hOf' := Lib.hid hOf; clear ho7 hb7 hbw7 bA7 hs7 hm7 hWt hchk hR0 hO0 hC0 hRk hOk hCk hSh hByt hlen hOK hOf
    go_wp2_with fail
    refine hOf'.out.mono ?_; rintro e w8 ⟨ua, un, uc, pa, pn, pc, rfl, hb8, hda, hsp⟩; have hDu := DirsAt.rd hda; have hspl := (Sl.of_own hsp).1; have hbw8 := hbw7'.out.trans (hb8.mono hbw7'.out.size); have bA8 := bA7'.out.late hb8; have ho8 := own_later ho7'.out hb8; have hal := (Below.refl w8.heap.size w8).alloc (Nat.le_refl _) (.cells #[.int .i64 o, .slice ua un uc] 24); have bU := Blk.new w8 24 #[.int .i64 o, .slice ua un uc]; obtain ⟨gU, hgU⟩ : ∃ g, w8.heap.size = g := ⟨_, rfl⟩; obtain ⟨W9, hW9⟩ : ∃ W9, w8.alloc (.cells #[.int .i64 o, .slice ua un uc] 24) = W9 := ⟨_, rfl⟩; rw [hW9] at hal bU; rw [hgU] at bU; have hbw9 := hbw8.trans (hal.mono hbw8.size); have bA9 := bA8.late hal; have hDu9 := hDu.mono hal; have hsp9 := hspl.mono hal; have ho9 := own_later ho8 hal; have hDt9 := h'.out.mono hbw9; have hLO := plof_any 16 o sa sn sc ds W9 hDt9 hs'.out hby'.out (by omega); have a0 : W9.cell? ⟨w.heap.size, 0, none⟩ = some (.int .i64 o) := bA9.cell rfl; have a1 : W9.cell? ⟨w.heap.size, 1, none⟩ = some (.slice sa sn sc) := bA9.cell rfl; rw [← hW9] at a0 a1; have hb8' := Lib.hid hb8; have hda' := Lib.hid hda; have hsp' := Lib.hid hsp; have hDu' := Lib.hid hDu; have hspl' := Lib.hid hspl; have hbw8' := Lib.hid hbw8; have bA8' := Lib.hid bA8; have ho8' := Lib.hid ho8; have hal' := Lib.hid hal; have bU' := Lib.hid bU; have hgU' := Lib.hid hgU; have hW9' := Lib.hid hW9; have hbw9' := Lib.hid hbw9; have bA9' := Lib.hid bA9; have hDu9' := Lib.hid hDu9; have hsp9' := Lib.hid hsp9; have ho9' := Lib.hid ho9; have hDt9' := Lib.hid hDt9; have hLO' := Lib.hid hLO; clear hb8 hda hsp hDu hspl hbw8 bA8 ho8 hal bU hgU hW9 hbw9 bA9 hDu9 hsp9 ho9 hDt9 hLO
    go_wp2_with fail
    try rw [hW9'.out]
    try rw [hgU'.out]
    refine hLO'.out.mono ?_; rintro e w10 ⟨hor, hb10⟩
    obtain ⟨v10, rfl, hsp10⟩ : ∃ v, e = .returned (.tuple #[v, .bool true]) ∧ Spr W9.heap.size w10 v (layT 16 ds) := by
      rcases hor with ⟨_, h⟩ | ⟨h, _⟩
      · exact h
      · rw [hOK'.out.fit] at h; cases h
    obtain ⟨qa, qc, rfl⟩ : ∃ a c, v10 = .slice a (layT 16 ds).length c := by
      rcases hsp10.2 with ⟨rfl, h0⟩ | ⟨g, cap, cur, rfl, _⟩
      · exact ⟨none, 0, by rw [h0]⟩
      · exact ⟨_, _, rfl⟩
    obtain ⟨qn, hqn⟩ : ∃ x, (layT 16 ds).length = x := ⟨_, rfl⟩; have hspq := (Sl.of_own hsp10).1; rw [hqn] at hspq ⊢; have hbw10 := hbw9'.out.trans (hb10.mono hbw9'.out.size); have bA10 := bA9'.out.late hb10; have bU10 := bU'.out.late hb10; have hDu10 := hDu9'.out.mono hb10; have hDt10 := hDt9'.out.mono hb10; have hspu := hsp9'.out.mono hb10; have ho10 := own_later ho9'.out hb10; clear a0 a1; have a0 : w10.cell? ⟨w.heap.size, 0, none⟩ = some (.int .i64 o) := bA10.cell rfl; have a1 : w10.cell? ⟨w.heap.size, 1, none⟩ = some (.slice sa sn sc) := bA10.cell rfl; have u0 : w10.cell? ⟨gU, 0, none⟩ = some (.int .i64 o) := bU10.cell rfl; have u1 : w10.cell? ⟨gU, 1, none⟩ = some (.slice ua un uc) := bU10.cell rfl; have hS1 := ptree_same 16 o o ua un uc sa sn sc ds ds w10 hDu10 hDt10 hby'.out hby'.out true (by simp); have hor' := Lib.hid hor; have hb10' := Lib.hid hb10; have hsp10' := Lib.hid hsp10; have hqn' := Lib.hid hqn; have hspq' := Lib.hid hspq; have hbw10' := Lib.hid hbw10; have bA10' := Lib.hid bA10; have bU10' := Lib.hid bU10; have hDu10' := Lib.hid hDu10; have hDt10' := Lib.hid hDt10; have hspu' := Lib.hid hspu; have ho10' := Lib.hid ho10; have hS1' := Lib.hid hS1; clear hor hb10 hsp10 hqn hspq hbw10 bA10 bU10 hDu10 hDt10 hspu ho10 hS1
    go_wp2_with fail
    refine hS1'.out.mono ?_; rintro e w11 ⟨rfl, hb11⟩; have bA11 := bA10'.out.late hb11; have bU11 := bU10'.out.late hb11; have hDu11 := hDu10'.out.mono hb11; have hDt11 := hDt10'.out.mono hb11; have hbw11 := hbw10'.out.trans (hb11.mono hbw10'.out.size); clear a0 a1 u0 u1; have a0 : w11.cell? ⟨w.heap.size, 0, none⟩ = some (.int .i64 o) := bA11.cell rfl; have a1 : w11.cell? ⟨w.heap.size, 1, none⟩ = some (.slice sa sn sc) := bA11.cell rfl; have u0 : w11.cell? ⟨gU, 0, none⟩ = some (.int .i64 o) := bU11.cell rfl; have u1 : w11.cell? ⟨gU, 1, none⟩ = some (.slice ua un uc) := bU11.cell rfl; have hS2 := tree_same 16 o o ua un uc sa sn sc ds ds w11 hDu11 hDt11 true (by simp); have hspu11 := hspu'.out.mono hb11; have hspq11 := hspq'.out.mono hb11; have ho11 := own_later ho10'.out hb11; have hb11' := Lib.hid hb11; have bA11' := Lib.hid bA11; have bU11' := Lib.hid bU11; have hDu11' := Lib.hid hDu11; have hDt11' := Lib.hid hDt11; have hbw11' := Lib.hid hbw11; have hS2' := Lib.hid hS2; have hspu11' := Lib.hid hspu11; have hspq11' := Lib.hid hspq11; have ho11' := Lib.hid ho11; clear hb11 bA11 bU11 hDu11 hDt11 hbw11 hS2 hspu11 hspq11 ho11
    go_wp2_with fail
    refine hS2'.out.mono ?_; rintro e w12 ⟨rfl, hb12⟩; have bA12 := bA11'.out.late hb12; have bU12 := bU11'.out.late hb12; have hbw12 := hbw11'.out.trans (hb12.mono hbw11'.out.size); have ho12 := own_later ho11'.out hb12; have hS3 := spots_any pa qa _ qn pc qc (layT 16 ds) (layT 16 ds) w12 (hspu11'.out.mono hb12) (hspq11'.out.mono hb12); have e1 : (layT 16 ds == layT 16 ds) = true := by simp
    rw [e1] at hS3; clear a0 a1 u0 u1 e1; have hb12' := Lib.hid hb12; have bA12' := Lib.hid bA12; have bU12' := Lib.hid bU12; have hbw12' := Lib.hid hbw12; have hS3' := Lib.hid hS3; have ho12' := Lib.hid ho12; clear hb12 bA12 bU12 hbw12 hS3 ho12
    go_wp2_with fail
    refine hS3'.out.mono ?_; rintro e w13 ⟨rfl, hq13⟩; have hb13 := hq13.below w12.heap.size; have bA13 := bA12'.out.late hb13; have hbw13 := hbw12'.out.trans (hb13.mono hbw12'.out.size); have ho13 := own_later ho12'.out hb13; have hS4 := wclean_anyW hD a7 m7 c7 WB a n c zs w13 (Sl.of_own ho13).1 (hz'.out.mono hbw13) hByt'.out (by omega); rw [hC0'.out] at hS4; have e2 : ((m7 : Int) == 0) = false := by simp; omega
    clear hq13; have hb13' := Lib.hid hb13; have bA13' := Lib.hid bA13; have hbw13' := Lib.hid hbw13; have ho13' := Lib.hid ho13; have hS4' := Lib.hid hS4; clear hb13 bA13 hbw13 ho13 hS4
    go_wp2_with fail
    refine hS4'.out.mono ?_; rintro e w14 ⟨rfl, hb14⟩; have bA14 := bA13'.out.late hb14; have hbw14 := hbw13'.out.trans (hb14.mono hbw13'.out.size); have ho14 := own_later ho13'.out hb14; have hOw := own01_any a7 m7 c7 WB w14 (Sl.of_own ho14).1 (by omega); have hb14' := Lib.hid hb14; have bA14' := Lib.hid bA14; have hbw14' := Lib.hid hbw14; have ho14' := Lib.hid ho14; have hOw' := Lib.hid hOw; clear hb14 bA14 hbw14 ho14 hOw
    go_wp2_with fail
    refine hOw'.out.mono ?_; rintro e w15 ⟨a15, c15, rfl, ho15, hb15⟩; have bA15 := bA14'.out.late hb15; have hbw15 := hbw14'.out.trans (hb15.mono hbw14'.out.size); have ho715 := own_later ho14'.out hb15; obtain ⟨aM, cM, wM, hrM, hoM, hgM⟩ := app_zeros_own w15 w14.heap.size a15 m7 c15 kb WB 30 ho15 (by omega) (by omega) hb15.size; have hb14M := below_grown hb15 hgM hb15.size ho15; have bAM := bA14'.out.late hb14M; have hbwM := hbw14'.out.trans (hb14M.mono hbw14'.out.size); have ho7M := own_later ho14'.out hb14M; have hOfM := wof_any hD aM (m7 + kb) cM (WB ++ List.replicate kb 0) a n c zs wM (Sl.of_own hoM).1 (hz'.out.mono hbwM) (hByt'.out.append (fun x hx => by rw [List.eq_of_mem_replicate hx]; decide)) (by omega) (fun x e => readS_ne e); rw [hRk'.out, hOk'.out] at hOfM; have hb15' := Lib.hid hb15; have bA15' := Lib.hid bA15; have hbw15' := Lib.hid hbw15; have ho715' := Lib.hid ho715; have ho15' := Lib.hid ho15; have hoM' := Lib.hid hoM; have hgM' := Lib.hid hgM; have hb14M' := Lib.hid hb14M; have bAM' := Lib.hid bAM; have hbwM' := Lib.hid hbwM; have ho7M' := Lib.hid ho7M; have hOfM' := Lib.hid hOfM; clear hb15 bA15 hbw15 ho715 ho15 hoM hgM hb14M bAM hbwM ho7M hOfM
    go_upto_region 11 with (at_builtin; refine Lib.wpList_append_run w15 rfl _ _ _ _ rfl _ _ rfl rfl _ _ hrM ?_)
    clear hrM
    go_wp2_with fail
    refine hOfM'.out.mono ?_; rintro e w17 ⟨va, vn, vc, ya, yn, yc, rfl, hb17, hdv, hspv⟩; have hDv := DirsAt.rd hdv; have hal := (Below.refl w17.heap.size w17).alloc (Nat.le_refl _) (.cells #[.int .i64 o, .slice va vn vc] 24); have bV := Blk.new w17 24 #[.int .i64 o, .slice va vn vc]; obtain ⟨gV, hgV⟩ : ∃ g, w17.heap.size = g := ⟨_, rfl⟩; obtain ⟨W18, hW18⟩ : ∃ W18, w17.alloc (.cells #[.int .i64 o, .slice va vn vc] 24) = W18 := ⟨_, rfl⟩; rw [hW18] at hal bV; rw [hgV] at bV; have hbM18 := hb17.trans (hal.mono hb17.size); have hbw18 := hbwM'.out.trans (hbM18.mono hbwM'.out.size); have bA18 := bAM'.out.late hbM18; have hDv18 := hDv.mono hal; have ho718 := own_later ho7M'.out hbM18; have hoM18 := own_later hoM'.out hbM18; have hw5 : IntKind.i64.wrap ((m7 : Int) - 1) = ((m7 - 1 : Nat) : Int) := by rw [IntKind.wrap_i64]; omega
    obtain ⟨aS, hrS, hsS, _⟩ := sub_h (P := Tryz.prog) (T := 30) Tryz.underlying30 sizeB (Sl.of_own ho718).1 ((m7 - 1 : Nat) : Int) (by omega) (by omega) (m7 - 1) rfl; have e5 : (ints .u8 WB).take ((m7 - 1) * 1) = ints .u8 (WB.take (m7 - 1)) := by rw [Nat.mul_one]; simp [ints]
    rw [e5] at hsS
    obtain ⟨xe, hxe⟩ : ∃ x, readS (WB.take (m7 - 1)) (shps zs) = .error x := by
      cases hr : readS (WB.take (m7 - 1)) (shps zs) with
      | error x => exact ⟨x, rfl⟩
      | ok r => exact absurd hr (hSh'.out r)
    have hxe0 := readS_ne hxe; have hOfS := wof_any hD aS (m7 - 1) c7 (WB.take (m7 - 1)) a n c zs W18 hsS (hz'.out.mono hbw18) (fun x hx => hByt'.out x (List.mem_of_mem_take hx)) (by omega) (fun x e => readS_ne e); rw [hxe] at hOfS; have f3 : (xe != 0) = true := by simp [hxe0]
    clear e5 hxe0; have hb17' := Lib.hid hb17; have hdv' := Lib.hid hdv; have hspv' := Lib.hid hspv; have hDv' := Lib.hid hDv; have hal' := Lib.hid hal; have bV' := Lib.hid bV; have hgV' := Lib.hid hgV; have hW18' := Lib.hid hW18; have hbM18' := Lib.hid hbM18; have hbw18' := Lib.hid hbw18; have bA18' := Lib.hid bA18; have hDv18' := Lib.hid hDv18; have ho718' := Lib.hid ho718; have hoM18' := Lib.hid hoM18; have hsS' := Lib.hid hsS; have hxe' := Lib.hid hxe; have hOfS' := Lib.hid hOfS; clear hb17 hdv hspv hDv hal bV hgV hW18 hbM18 hbw18 bA18 hDv18 ho718 hoM18 hsS hxe hOfS
    go_wp2_with fail
    try rw [hW18'.out]
    try rw [hgV'.out]
    refine hOfS'.out.mono ?_; rintro e w19 ⟨rfl, hb19⟩; have hal2 := (Below.refl w19.heap.size w19).alloc (Nat.le_refl _) (.cells #[.int .i64 0, .slice none 0 0] 24); obtain ⟨W20, hW20⟩ : ∃ W20, w19.alloc (.cells #[.int .i64 0, .slice none 0 0] 24) = W20 := ⟨_, rfl⟩; rw [hW20] at hal2; have hb1820 := hb19.trans (hal2.mono hb19.size); have hbw20 := hbw18'.out.trans (hb1820.mono hbw18'.out.size); have bA20 := bA18'.out.late hb1820; have bV20 := bV'.out.late hb1820; have hDv20 := hDv18'.out.mono hb1820; have hDt20 := h'.out.mono hbw20; have a0 : W20.cell? ⟨w.heap.size, 0, none⟩ = some (.int .i64 o) := bA20.cell rfl; have a1 : W20.cell? ⟨w.heap.size, 1, none⟩ = some (.slice sa sn sc) := bA20.cell rfl; have v0 : W20.cell? ⟨gV, 0, none⟩ = some (.int .i64 o) := bV20.cell rfl; have v1 : W20.cell? ⟨gV, 1, none⟩ = some (.slice va vn vc) := bV20.cell rfl; have hS5 := ptree_same 16 o o va vn vc sa sn sc ds ds W20 hDv20 hDt20 hby'.out hby'.out true (by simp); have hoM20 := own_later hoM18'.out hb1820; rw [← hW20] at a0 a1 v0 v1; have hb19' := Lib.hid hb19; have hal2' := Lib.hid hal2; have hW20' := Lib.hid hW20; have hb1820' := Lib.hid hb1820; have hbw20' := Lib.hid hbw20; have bA20' := Lib.hid bA20; have bV20' := Lib.hid bV20; have hDv20' := Lib.hid hDv20; have hDt20' := Lib.hid hDt20; have hS5' := Lib.hid hS5; have hoM20' := Lib.hid hoM20; clear hb19 hal2 hW20 hb1820 hbw20 bA20 bV20 hDv20 hDt20 hS5 hoM20
    go_wp2_with fail
    try rw [hW20'.out]
    refine hS5'.out.mono ?_; rintro e w21 ⟨rfl, hb21⟩; have hbw21 := hbw20'.out.trans (hb21.mono hbw20'.out.size); have hoM21 := own_later hoM20'.out hb21; have hS6 := wclean_anyW hD aM (m7 + kb) cM (WB ++ List.replicate kb 0) a n c zs w21 (Sl.of_own hoM21).1 (hz'.out.mono hbw21) (hByt'.out.append (fun x hx => by rw [List.eq_of_mem_replicate hx]; decide)) (by omega); rw [hCk'.out] at hS6; clear a0 a1 v0 v1; have hb21' := Lib.hid hb21; have hbw21' := Lib.hid hbw21; have hoM21' := Lib.hid hoM21; have hS6' := Lib.hid hS6; clear hb21 hbw21 hoM21 hS6
    go_wp2_with fail
    refine hS6'.out.mono ?_; rintro e w22 ⟨rfl, hb22⟩; have hbwz := hbw21'.out.trans (hb22.mono hbw21'.out.size); have hb22' := Lib.hid hb22; clear hb22; have hbwz' := Lib.hid hbwz; clear hbwz
    go_wp2_with fail
    refine (awake_anyW hD _).mono ?_; rintro e w9 ⟨rfl, hb9⟩; have hbw9 := hbwz'.out.trans (hb9.mono hbwz'.out.size); have hb9' := Lib.hid hb9; have hbw9' := Lib.hid hbw9; clear hb9 hbw9
    go_wp2_with fail
    go_ret
    exact ⟨rfl, hbw9'.out⟩
  · have f1 : (ck != 0) = true := by simp [hck0]
    rw [if_neg hck0] at hwt'; obtain rfl := hwt'.out; obtain rfl : m7 = 0 := by rw [← hm7]; rfl
    have hbwz := hbw7; have ho7' := Lib.hid ho7; have hb7' := Lib.hid hb7; have hbw7' := Lib.hid hbw7; have bA7' := Lib.hid bA7; have hs7' := Lib.hid hs7; have hm7' := Lib.hid hm7; have hck0' := Lib.hid hck0; clear ho7 hb7 hbw7 bA7 hs7 hm7 hck0; have hbwz' := Lib.hid hbwz; clear hbwz
    go_wp2_with fail
    refine (awake_anyW hD _).mono ?_; rintro e w9 ⟨rfl, hb9⟩; have hbw9 := hbwz'.out.trans (hb9.mono hbwz'.out.size); have hb9' := Lib.hid hb9; have hbw9' := Lib.hid hbw9; clear hb9 hbw9
    go_wp2_with fail
    go_ret
    exact ⟨rfl, hbw9'.out⟩
theorem wback_law (hD : DirOk) (o : Int) (sa : Option Addr) (sn sc F : Nat) (a : Option Addr) (n c : Nat) (zs : List Shz) (behind : Int) (w : World)
    (h : ∀ g, F ≤ g → ∃ ds : List (DirT g), DirsR g w sa sn sc ds ∧ ∀ d ∈ ds, bytD g d) (hz : ShR w a n c zs) :
    Calls Tryz.prog 7 #[.agg #[.int .i64 o, .slice sa sn sc], .slice a n c, .int .i64 behind] w fun e w' => e = .returned (.bool true) ∧ Below w.heap.size w w' := by
  obtain ⟨ds, h3, h4⟩ := h F (Nat.le_refl _); exact wback_any hD F o sa sn sc ds a n c zs behind w h3 h4 hz
end Go.Proofs.YtilennmeiaehnaaGreat
