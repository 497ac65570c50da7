/- Chapter 12, the document's side: Pieces: the walk. -/
import Derived.Test.YtpjopeojeglogaaCr32
namespace Go.Proofs.Ytpjopeojeglogaa
open Go.RowKit Tt
set_option linter.unusedVariables false
set_option linter.unusedSimpArgs false

theorem piece_other {z : List Int} {i : Nat} {x : Int} {c : List Int} {m : Int} (hx : z[i]? = some x) (h : x ≠ 255 ∨ z.length ≤ i + 1 ∨ ∃ y, z[i + 1]? = some y ∧ ¬ (208 ≤ y ∧ y ≤ 215)) : catP c (pieceS (z.drop i) m) = catP (c ++ [x]) (pieceS (z.drop (i + 1)) m) := by
  rw [drop_at hx]
  rcases Nat.lt_or_ge (i + 1) z.length with h1 | h1
  · obtain ⟨y, hy⟩ : ∃ y, z[i + 1]? = some y := ⟨_, List.getElem?_eq_getElem h1⟩
    rw [drop_at hy]; refine piece_next fun hh => ?_
    rcases h with h | h | ⟨y2, h2, h3⟩
    · exact h hh.1
    · omega
    · rw [hy] at h2
      injection h2 with h2; exact h3 (h2 ▸ hh.2)
  · rw [List.drop_eq_nil_of_le h1]
    exact piece_last
theorem piece_restart {z : List Int} {i : Nat} {y : Int} {c : List Int} {m : Int} (hx : z[i]? = some 255) (hy : z[i + 1]? = some y) (h1 : 208 ≤ y) (h2 : y ≤ 215) : catP c (pieceS (z.drop i) m) = (c, m) :: catP [] (pieceS (z.drop (i + 2)) (y - 208)) := by
  rw [drop_at hx, drop_at hy]; exact piece_mark ⟨rfl, h1, h2⟩
theorem pcs_last (D : List PcM) (cu : PcM) : (pcsC (D ++ [cu]))[D.length * 2]? = some (.slice cu.2.1 cu.2.2.1 cu.2.2.2) := by
  rw [pcsC_snoc, ← pcsC_len, List.getElem?_append_right (Nat.le_refl _), Nat.sub_self]
  rfl
set_option maxRecDepth 100000 in
set_option maxHeartbeats 1000000 in
theorem rpieces_any (a : Option Addr) (n c : Nat) (z : List Int) (w : World) (hs : Sl w a n c 1 (ints .u8 z)) (hz : Byt z) (hn : n ≤ 1000) (hlt : ∀ x, a = some x → x.block < w.heap.size) :
    Calls Try.prog 105 #[.slice a n c] w fun e w' => ∃ ao no co l, e = .returned (.slice ao no co) ∧ PcsR w' ao no co l ∧ l.map (·.1) = pieceS z (-1) ∧ Below w.heap.size w w' := by
  obtain ⟨i8, hi8, hz80, hz81, hz82⟩ := info_parts info8; obtain ⟨iP, hiP, hzP0, hzP1, hzP2⟩ := info_parts infoPc; have hl := hs.ilen; have b1 := Blk.new w 159 #[.slice none 0 0, .int .i64 (-1)]; have hb1 := (Below.refl w.heap.size w).alloc (Nat.le_refl _) (.cells #[.slice none 0 0, .int .i64 (-1)] 159); obtain ⟨W1, hW1⟩ : ∃ W1, w.alloc (.cells #[.slice none 0 0, .int .i64 (-1)] 159) = W1 := ⟨_, rfl⟩; have hsW : W1.heap.size = w.heap.size + 1 := by rw [← hW1]; simp only [World.size_alloc]
  rw [hW1] at b1 hb1; have hG1 : PcG w W1 W1.heap.size (some ⟨w.heap.size, 0, none⟩) 1 [] (([], -1), none, 0, 0) := ⟨⟨by simp [pcsC, pcC], .inr ⟨w.heap.size, 1, _, rfl, Nat.le_refl _, b1, Nat.le_refl _, by unfold maxLen; omega, rfl, rfl⟩⟩, (fun k hk => by injection hk with hk; rw [hsW, ← hk]; exact Nat.lt_succ_self _), PcOk.nil _ _, own_nil _ _ _ _, hb1.size, hb1⟩; have hs' := Lib.hid hs; have hz' := Lib.hid hz; have hl' := Lib.hid hl; have b1' := Lib.hid b1; have hb1' := Lib.hid hb1; have hW1' := Lib.hid hW1; have hsW' := Lib.hid hsW; have hG1' := Lib.hid hG1; have hlt' := Lib.hid hlt; clear hs hz hl b1 hb1 hW1 hsW hG1 hlt
  go_enter Try.func105, Try.ntmps105
  go_upto_region 2 with fail
  rw [hW1'.out]
  go_wp2
  go_loopw [3, 4, 5] (fun ov iv _ wr => ∃ (i g : Nat) (ao : Option Addr) (co : Nat) (D : List PcM) (cu : PcM), i ≤ n ∧ D.length ≤ i ∧ cu.2.2.1 ≤ i ∧ iv = .int .i64 i ∧ ov = .slice ao (D.length + 1) co ∧ Hid (PcG w wr g ao co D cu) ∧ Hid (g ≤ wr.heap.size) ∧ Hid (pieceS z (-1) = D.map (·.1) ++ catP cu.1.1 (pieceS (z.drop i) cu.1.2))) (fun _ iv _ _ => n - (intOf iv).toNat)
  case atStart => exact ⟨0, _, _, _, [], _, by omega, by simp, by simp, rfl, rfl, hG1', Lib.hid (Nat.le_refl _), Lib.hid (by simp [catP_nil])⟩
  case round =>
    rename World => wr
    obtain ⟨i, g, ao, co, D, cu, hin, hDi, hmc, rfl, rfl, hG, hgr, hT⟩ := hrel
    by_cases hlt2 : i < n
    · obtain ⟨x, hx⟩ : ∃ x, z[i]? = some x := ⟨_, List.getElem?_eq_getElem (by rw [hl'.out]; exact hlt2)⟩
      obtain ⟨ga, oa, rfl, hgax, fa⟩ := (hs'.out.mono hG.out.bel).at hlt2; have hga' := Lib.hid (hlt'.out _ rfl); have f0 : wr.cell? ⟨ga, oa + i, none⟩ = some (.int .u8 x) := fa i _ (by unfold ints; rw [List.getElem?_map, hx]; rfl)
      by_cases c1 : x = 255
      · have c10 : (x == 255) = true := by simpa using c1
        by_cases c2 : i + 1 < n
        · obtain ⟨y, hy⟩ : ∃ y, z[i + 1]? = some y := ⟨_, List.getElem?_eq_getElem (by rw [hl'.out]; exact c2)⟩
          have hyb := hz'.out y (List.mem_of_getElem? hy); have f1 : wr.cell? ⟨ga, oa + (i + 1), none⟩ = some (.int .u8 y) := fa (i + 1) _ (by unfold ints; rw [List.getElem?_map, hy]; rfl)
          by_cases c3 : 208 ≤ y
          · by_cases c4 : y ≤ 215
            · have hT3 : pieceS z (-1) = (D ++ [cu]).map (·.1) ++ catP [] (pieceS (z.drop (i + 2)) (y - 208)) := by
                rw [hT.out, piece_restart (by rw [hx, c1]) hy c3 c4, List.map_append, List.append_assoc]
                rfl
              have hal := (Below.refl wr.heap.size wr).alloc (Nat.le_refl _) (.cells #[.slice none 0 0, .int .i64 (y - 208)] 159); have s5 := Sl.new wr 159 2 1 #[.slice none 0 0, .int .i64 (y - 208)] (0, 0) (by decide) rfl; have hGE := hG.out.late hal; have hgE := hGE.bel.size; have hOE := hGE.out; clear fa c1; have hT3' := Lib.hid hT3; have hal' := Lib.hid hal; have s5' := Lib.hid s5; have hGE' := Lib.hid hGE; have hOE' := Lib.hid hOE; have hx' := Lib.hid hx; have hy' := Lib.hid hy; clear hT3 hal s5 hGE hOE hx hy
              go_wp2_with (at_builtin; go_loud (refine wpList_app rfl _ _ 156 rfl w.heap.size 159 iP _ 2 32 Try.underlying156 hiP hzP0 hzP1 hzP2 rfl (by decide) _ (D.length + 1) _ rfl hOE'.out (some ⟨wr.heap.size, 0, none⟩) 1 1 _ rfl s5'.out (by simp [Value.oneCell']) (by omega) (by decide) hgE ?_; intro a7 c7 w7 ho7 hb7 hg7; have hsn := Lib.hid (hGE'.out.snoc ho7 hb7 hg7); clear ho7 hb7 hg7))
              go_roundw
              case rel => exact ⟨i + 2, w7.heap.size, a7, c7, D ++ [cu], (([], y - 208), none, 0, 0), by omega, by rw [List.length_append]; simp; omega, by simp, by go_num, by rw [List.length_append]; rfl, hsn, Lib.hid (Nat.le_refl _), hT3'⟩
              case measure => simp [intOf]; omega
            · have hoth : x ≠ 255 ∨ z.length ≤ i + 1 ∨ ∃ y, z[i + 1]? = some y ∧ ¬ (208 ≤ y ∧ y ≤ 215) := .inr (.inr ⟨y, hy, fun h => c4 h.2⟩)
              clear fa c1 hy
              have hT2 : pieceS z (-1) = D.map (·.1) ++ catP (cu.1.1 ++ [x]) (pieceS (z.drop (i + 1)) cu.1.2) := by
                rw [hT.out, piece_other hx hoth]
              clear hoth; have hG0 := hG.out; obtain ⟨go, rfl, hgoB, hgo, hfr, hcl⟩ := own_at hG0.out (show D.length < D.length + 1 by omega); have hgog := hG0.lt go rfl; have hc0 := hcl _ _ (pcs_last D cu); obtain ⟨d, hd⟩ : ∃ d, D.length = d := ⟨_, rfl⟩; have hput := fun w7 (hb : Below g wr w7) a7 m7 c7 (z7 : List Int) ho => hG0.put (w7 := w7) hb (a7 := a7) (m7 := m7) (c7 := c7) (z7 := z7) ho; have hcur := hG0.cur; have hgsz : g ≤ wr.heap.size ∨ g ≤ wr.heap.size := Or.inl hgr.out; rw [hd] at hc0 hput hDi ⊢; have hDq := (Below.refl wr.heap.size wr).drew; obtain ⟨wD, hwD⟩ : ∃ W, wr.drew = W := ⟨_, rfl⟩; rw [hwD] at hDq; have hDg : Below g wr wD := hDq.mono hgr.out; obtain ⟨Ty2, f2, hnn2, hpr2, hsurj2⟩ := pr_worlds (fun W => W.cell? ⟨go, d * 2, none⟩ = some (.slice cu.2.1 cu.2.2.1 cu.2.2.2) ∧ W.cell? ⟨ga, oa + i, none⟩ = some (.int .u8 x)) wr ⟨hc0, f0⟩; have hgz : ga < g := Nat.lt_of_lt_of_le hga'.out hG0.bas; have hkeep : ∀ W, Below g wr W → ∃ s, W = f2 s := fun W h => hsurj2 W ⟨(h.cell (p := ⟨go, d * 2, none⟩) hgog).trans hc0, (h.cell (p := ⟨ga, oa + i, none⟩) hgz).trans f0⟩; have HS := Lib.hid (hkeep wD hDg); have q0 : ∀ s, (f2 s).cell? ⟨go, d * 2, none⟩ = some (.slice cu.2.1 cu.2.2.1 cu.2.2.2) := fun s => (hpr2 s).1; have q1 : ∀ s, (f2 s).cell? ⟨ga, oa + i, none⟩ = some (.int .u8 x) := fun s => (hpr2 s).2; have hcurD := own_later hcur hDq
              have hfz : ∀ W, Below g wr W → W.frozen? ⟨go, d * 2, none⟩ = false := fun W h => by
                obtain ⟨cur, hblk⟩ := own_at_blk (own_mo hG0.out (mo_from h) (fun k hk hs => by have := hG0.lt k hk; omega)) rfl; exact hblk.frozen _
              have halE := (Below.refl wD.heap.size wD).alloc (Nat.le_refl _) (.cells #[.int .u8 x] 5); have s5 := Sl.new wD 5 1 1 #[.int .u8 x] (0, 0) (by decide) rfl; have hDgs : g ≤ wD.heap.size := Nat.le_trans hgr.out hDq.size; have hcurE := own_later hcurD halE; have hEg : Below g wr (wD.alloc (.cells #[.int .u8 x] 5)) := hDg.trans (halE.mono hDgs); have hEs := hEg.size; have HE := Lib.hid (hkeep _ hEg); obtain ⟨⟨c, m⟩, ac, mc, cc⟩ := cu; simp only at q0 hput hcurE hT2 hmc hcur hcurD hc0; have hgE : g ≤ (wD.alloc (.cells #[.int .u8 x] 5)).heap.size := Nat.le_trans hgr.out hEs; have hdl : (d : Int) + 1 - 1 = d := by omega
              clear hpr2 hcl hG0 hsurj2 hcur hcurD halE hDq hgsz; have hkeep' := Lib.hid hkeep; have hT2' := Lib.hid hT2; have hput' := Lib.hid hput; have hcurE' := Lib.hid hcurE; have s5' := Lib.hid s5; have hwD' := Lib.hid hwD; have hd' := Lib.hid hd; have hgE' := Lib.hid hgE; have hEs' := Lib.hid hEs; have hEg' := Lib.hid hEg; have hDg' := Lib.hid hDg; have hDgs' := Lib.hid hDgs; have hc0' := Lib.hid hc0; have hgz' := Lib.hid hgz; have hfr' := Lib.hid hfr; have hx' := Lib.hid hx; have hfz' := Lib.hid hfz; clear hkeep hT2 hput hcurE s5 hwD hd hgE hEs hEg hDg hDgs hc0 hgz hfr hx hfz
              go_upto_region 9 with fail
              clear f0; refine wp_noP ?_; refine till_begin (t := 15) (C := fun W => ∃ s, W = f2 s) (by kernel_rfl) 16 rfl ?_; rw [hwD'.out]; refine till_take [0, 1, 2, 3, 4, 5, 6, 7, 8, 9, 10] 5 (by kernel_rfl) noP_put (by kernel_rfl) (by kernel_rfl) (by kernel_rfl) HS.out ?_; simp only [pickL, List.map_cons, List.map_nil, List.getD_cons_succ, List.getD_cons_zero]
              iterate 11 (go_big_quiet_step (fail))
              refine wpQuiet_nil ?_; clear q0 q1; refine till_one 11 4 (by kernel_rfl) (by kernel_rfl) ?_; simp only [pickL, List.map_cons, List.map_nil, List.getD_cons_succ, List.getD_cons_zero]
              go_wp2_with fail
              refine Mid.mk ⟨fun _ => HE.out, ?_⟩; refine till_one 12 3 (by kernel_rfl) (by kernel_rfl) ?_; simp only [pickL, List.map_cons, List.map_nil, List.getD_cons_succ, List.getD_cons_zero]; refine wpList_app rfl _ _ 30 rfl g 5 i8 _ 1 1 Try.underlying30 hi8 hz80 hz81 hz82 rfl (by decide) _ mc _ rfl hcurE'.out (some ⟨wD.heap.size, 0, none⟩) 1 1 _ rfl s5'.out (by simp [Value.oneCell']) (by omega) (by decide) hgE'.out ?_; intro a7 c7 w7 ho7 hb7 hg7; have hb17 := hEg'.out.trans hb7; have hP := hput'.out w7 hb17 a7 (mc + 1) c7 (c ++ [x]) (by rw [ints_append] ; exact ho7); have HS7 := Lib.hid (hkeep'.out w7 hb17); have e0 := (hb17.cell (p := ⟨go, d * 2, none⟩) hgog).trans hc0'.out; have hfr7 : w7.frozen? ⟨go, d * 2, none⟩ = false := hfz'.out w7 hb17; clear ho7 hb7 hg7; have hP' := Lib.hid hP; have hb17' := Lib.hid hb17; clear hP hb17
              go_wp2_with fail
              refine Mid.mk ⟨fun _ => HS7.out, ?_⟩; clear HS; have HS := HS7; refine till_free [13, 14] 1 (by kernel_rfl) noP_put (by kernel_rfl) (by kernel_rfl) (by kernel_rfl) HS.out ?_; simp only [pickL, List.map_cons, List.map_nil, List.getD_cons_succ, List.getD_cons_zero]
              iterate 2 (go_big_quiet_step (fail))
              refine wpQuiet_nil ?_; have e1 : w7.frozen? ⟨go, d * 2, none⟩ = false := hfr7; refine till_one 15 0 (by kernel_rfl) (by kernel_rfl) ?_; simp only [pickL, List.map_cons, List.map_nil, List.getD_cons_succ, List.getD_cons_zero]
              go_wp2_with fail
              refine ⟨fun h => Bool.noConfusion (show true = false from h), ⟨by kernel_rfl, noP_normal ?_⟩⟩; clear e0 e1 hfr7
              go_wp2_with fail
              refine ⟨⟨i + 1, g, _, _, D, ((c ++ [x], m), a7, mc + 1, c7), by omega, by rw [hd'.out]; omega, by show mc + 1 ≤ i + 1; omega, by go_num, by rw [hd'.out], hP', Lib.hid ?_, hT2'⟩, by simp [intOf]; omega⟩
              exact hP'.out.bel.size |> fun _ => by
                have := hb17'.out.size; simp only [World.setCell]
                simpa using Nat.le_trans hgr.out this
          · have hoth : x ≠ 255 ∨ z.length ≤ i + 1 ∨ ∃ y, z[i + 1]? = some y ∧ ¬ (208 ≤ y ∧ y ≤ 215) := .inr (.inr ⟨y, hy, fun h => c3 h.1⟩)
            clear fa c1 hy
            have hT2 : pieceS z (-1) = D.map (·.1) ++ catP (cu.1.1 ++ [x]) (pieceS (z.drop (i + 1)) cu.1.2) := by
              rw [hT.out, piece_other hx hoth]
            clear hoth; have hG0 := hG.out; obtain ⟨go, rfl, hgoB, hgo, hfr, hcl⟩ := own_at hG0.out (show D.length < D.length + 1 by omega); have hgog := hG0.lt go rfl; have hc0 := hcl _ _ (pcs_last D cu); obtain ⟨d, hd⟩ : ∃ d, D.length = d := ⟨_, rfl⟩; have hput := fun w7 (hb : Below g wr w7) a7 m7 c7 (z7 : List Int) ho => hG0.put (w7 := w7) hb (a7 := a7) (m7 := m7) (c7 := c7) (z7 := z7) ho; have hcur := hG0.cur; have hgsz : g ≤ wr.heap.size ∨ g ≤ wr.heap.size := Or.inl hgr.out; rw [hd] at hc0 hput hDi ⊢; have hDq := (Below.refl wr.heap.size wr).drew; obtain ⟨wD, hwD⟩ : ∃ W, wr.drew = W := ⟨_, rfl⟩; rw [hwD] at hDq; have hDg : Below g wr wD := hDq.mono hgr.out; obtain ⟨Ty2, f2, hnn2, hpr2, hsurj2⟩ := pr_worlds (fun W => W.cell? ⟨go, d * 2, none⟩ = some (.slice cu.2.1 cu.2.2.1 cu.2.2.2) ∧ W.cell? ⟨ga, oa + i, none⟩ = some (.int .u8 x)) wr ⟨hc0, f0⟩; have hgz : ga < g := Nat.lt_of_lt_of_le hga'.out hG0.bas; have hkeep : ∀ W, Below g wr W → ∃ s, W = f2 s := fun W h => hsurj2 W ⟨(h.cell (p := ⟨go, d * 2, none⟩) hgog).trans hc0, (h.cell (p := ⟨ga, oa + i, none⟩) hgz).trans f0⟩; have HS := Lib.hid (hkeep wD hDg); have q0 : ∀ s, (f2 s).cell? ⟨go, d * 2, none⟩ = some (.slice cu.2.1 cu.2.2.1 cu.2.2.2) := fun s => (hpr2 s).1; have q1 : ∀ s, (f2 s).cell? ⟨ga, oa + i, none⟩ = some (.int .u8 x) := fun s => (hpr2 s).2; have hcurD := own_later hcur hDq
            have hfz : ∀ W, Below g wr W → W.frozen? ⟨go, d * 2, none⟩ = false := fun W h => by
              obtain ⟨cur, hblk⟩ := own_at_blk (own_mo hG0.out (mo_from h) (fun k hk hs => by have := hG0.lt k hk; omega)) rfl; exact hblk.frozen _
            have halE := (Below.refl wD.heap.size wD).alloc (Nat.le_refl _) (.cells #[.int .u8 x] 5); have s5 := Sl.new wD 5 1 1 #[.int .u8 x] (0, 0) (by decide) rfl; have hDgs : g ≤ wD.heap.size := Nat.le_trans hgr.out hDq.size; have hcurE := own_later hcurD halE; have hEg : Below g wr (wD.alloc (.cells #[.int .u8 x] 5)) := hDg.trans (halE.mono hDgs); have hEs := hEg.size; have HE := Lib.hid (hkeep _ hEg); obtain ⟨⟨c, m⟩, ac, mc, cc⟩ := cu; simp only at q0 hput hcurE hT2 hmc hcur hcurD hc0; have hgE : g ≤ (wD.alloc (.cells #[.int .u8 x] 5)).heap.size := Nat.le_trans hgr.out hEs; have hdl : (d : Int) + 1 - 1 = d := by omega
            clear hpr2 hcl hG0 hsurj2 hcur hcurD halE hDq hgsz; have hkeep' := Lib.hid hkeep; have hT2' := Lib.hid hT2; have hput' := Lib.hid hput; have hcurE' := Lib.hid hcurE; have s5' := Lib.hid s5; have hwD' := Lib.hid hwD; have hd' := Lib.hid hd; have hgE' := Lib.hid hgE; have hEs' := Lib.hid hEs; have hEg' := Lib.hid hEg; have hDg' := Lib.hid hDg; have hDgs' := Lib.hid hDgs; have hc0' := Lib.hid hc0; have hgz' := Lib.hid hgz; have hfr' := Lib.hid hfr; have hx' := Lib.hid hx; have hfz' := Lib.hid hfz; clear hkeep hT2 hput hcurE s5 hwD hd hgE hEs hEg hDg hDgs hc0 hgz hfr hx hfz
            go_upto_region 9 with fail
            clear f0; refine wp_noP ?_; refine till_begin (t := 15) (C := fun W => ∃ s, W = f2 s) (by kernel_rfl) 16 rfl ?_; rw [hwD'.out]; refine till_take [0, 1, 2, 3, 4, 5, 6, 7, 8, 9, 10] 5 (by kernel_rfl) noP_put (by kernel_rfl) (by kernel_rfl) (by kernel_rfl) HS.out ?_; simp only [pickL, List.map_cons, List.map_nil, List.getD_cons_succ, List.getD_cons_zero]
            iterate 11 (go_big_quiet_step (fail))
            refine wpQuiet_nil ?_; clear q0 q1; refine till_one 11 4 (by kernel_rfl) (by kernel_rfl) ?_; simp only [pickL, List.map_cons, List.map_nil, List.getD_cons_succ, List.getD_cons_zero]
            go_wp2_with fail
            refine Mid.mk ⟨fun _ => HE.out, ?_⟩; refine till_one 12 3 (by kernel_rfl) (by kernel_rfl) ?_; simp only [pickL, List.map_cons, List.map_nil, List.getD_cons_succ, List.getD_cons_zero]; refine wpList_app rfl _ _ 30 rfl g 5 i8 _ 1 1 Try.underlying30 hi8 hz80 hz81 hz82 rfl (by decide) _ mc _ rfl hcurE'.out (some ⟨wD.heap.size, 0, none⟩) 1 1 _ rfl s5'.out (by simp [Value.oneCell']) (by omega) (by decide) hgE'.out ?_; intro a7 c7 w7 ho7 hb7 hg7; have hb17 := hEg'.out.trans hb7; have hP := hput'.out w7 hb17 a7 (mc + 1) c7 (c ++ [x]) (by rw [ints_append] ; exact ho7); have HS7 := Lib.hid (hkeep'.out w7 hb17); have e0 := (hb17.cell (p := ⟨go, d * 2, none⟩) hgog).trans hc0'.out; have hfr7 : w7.frozen? ⟨go, d * 2, none⟩ = false := hfz'.out w7 hb17; clear ho7 hb7 hg7; have hP' := Lib.hid hP; have hb17' := Lib.hid hb17; clear hP hb17
            go_wp2_with fail
            refine Mid.mk ⟨fun _ => HS7.out, ?_⟩; clear HS; have HS := HS7; refine till_free [13, 14] 1 (by kernel_rfl) noP_put (by kernel_rfl) (by kernel_rfl) (by kernel_rfl) HS.out ?_; simp only [pickL, List.map_cons, List.map_nil, List.getD_cons_succ, List.getD_cons_zero]
            iterate 2 (go_big_quiet_step (fail))
            refine wpQuiet_nil ?_; have e1 : w7.frozen? ⟨go, d * 2, none⟩ = false := hfr7; refine till_one 15 0 (by kernel_rfl) (by kernel_rfl) ?_; simp only [pickL, List.map_cons, List.map_nil, List.getD_cons_succ, List.getD_cons_zero]
            go_wp2_with fail
            refine ⟨fun h => Bool.noConfusion (show true = false from h), ⟨by kernel_rfl, noP_normal ?_⟩⟩; clear e0 e1 hfr7
            go_wp2_with fail
            refine ⟨⟨i + 1, g, _, _, D, ((c ++ [x], m), a7, mc + 1, c7), by omega, by rw [hd'.out]; omega, by show mc + 1 ≤ i + 1; omega, by go_num, by rw [hd'.out], hP', Lib.hid ?_, hT2'⟩, by simp [intOf]; omega⟩
            exact hP'.out.bel.size |> fun _ => by
              have := hb17'.out.size; simp only [World.setCell]
              simpa using Nat.le_trans hgr.out this
        · have hoth : x ≠ 255 ∨ z.length ≤ i + 1 ∨ ∃ y, z[i + 1]? = some y ∧ ¬ (208 ≤ y ∧ y ≤ 215) := .inr (.inl (by have := hl'.out; omega))
          clear fa c1
          have hT2 : pieceS z (-1) = D.map (·.1) ++ catP (cu.1.1 ++ [x]) (pieceS (z.drop (i + 1)) cu.1.2) := by
            rw [hT.out, piece_other hx hoth]
          clear hoth; have hG0 := hG.out; obtain ⟨go, rfl, hgoB, hgo, hfr, hcl⟩ := own_at hG0.out (show D.length < D.length + 1 by omega); have hgog := hG0.lt go rfl; have hc0 := hcl _ _ (pcs_last D cu); obtain ⟨d, hd⟩ : ∃ d, D.length = d := ⟨_, rfl⟩; have hput := fun w7 (hb : Below g wr w7) a7 m7 c7 (z7 : List Int) ho => hG0.put (w7 := w7) hb (a7 := a7) (m7 := m7) (c7 := c7) (z7 := z7) ho; have hcur := hG0.cur; have hgsz : g ≤ wr.heap.size ∨ g ≤ wr.heap.size := Or.inl hgr.out; rw [hd] at hc0 hput hDi ⊢; have hDq := (Below.refl wr.heap.size wr).drew; obtain ⟨wD, hwD⟩ : ∃ W, wr.drew = W := ⟨_, rfl⟩; rw [hwD] at hDq; have hDg : Below g wr wD := hDq.mono hgr.out; obtain ⟨Ty2, f2, hnn2, hpr2, hsurj2⟩ := pr_worlds (fun W => W.cell? ⟨go, d * 2, none⟩ = some (.slice cu.2.1 cu.2.2.1 cu.2.2.2) ∧ W.cell? ⟨ga, oa + i, none⟩ = some (.int .u8 x)) wr ⟨hc0, f0⟩; have hgz : ga < g := Nat.lt_of_lt_of_le hga'.out hG0.bas; have hkeep : ∀ W, Below g wr W → ∃ s, W = f2 s := fun W h => hsurj2 W ⟨(h.cell (p := ⟨go, d * 2, none⟩) hgog).trans hc0, (h.cell (p := ⟨ga, oa + i, none⟩) hgz).trans f0⟩; have HS := Lib.hid (hkeep wD hDg); have q0 : ∀ s, (f2 s).cell? ⟨go, d * 2, none⟩ = some (.slice cu.2.1 cu.2.2.1 cu.2.2.2) := fun s => (hpr2 s).1; have q1 : ∀ s, (f2 s).cell? ⟨ga, oa + i, none⟩ = some (.int .u8 x) := fun s => (hpr2 s).2; have hcurD := own_later hcur hDq
          have hfz : ∀ W, Below g wr W → W.frozen? ⟨go, d * 2, none⟩ = false := fun W h => by
            obtain ⟨cur, hblk⟩ := own_at_blk (own_mo hG0.out (mo_from h) (fun k hk hs => by have := hG0.lt k hk; omega)) rfl; exact hblk.frozen _
          have halE := (Below.refl wD.heap.size wD).alloc (Nat.le_refl _) (.cells #[.int .u8 x] 5); have s5 := Sl.new wD 5 1 1 #[.int .u8 x] (0, 0) (by decide) rfl; have hDgs : g ≤ wD.heap.size := Nat.le_trans hgr.out hDq.size; have hcurE := own_later hcurD halE; have hEg : Below g wr (wD.alloc (.cells #[.int .u8 x] 5)) := hDg.trans (halE.mono hDgs); have hEs := hEg.size; have HE := Lib.hid (hkeep _ hEg); obtain ⟨⟨c, m⟩, ac, mc, cc⟩ := cu; simp only at q0 hput hcurE hT2 hmc hcur hcurD hc0; have hgE : g ≤ (wD.alloc (.cells #[.int .u8 x] 5)).heap.size := Nat.le_trans hgr.out hEs; have hdl : (d : Int) + 1 - 1 = d := by omega
          clear hpr2 hcl hG0 hsurj2 hcur hcurD halE hDq hgsz; have hkeep' := Lib.hid hkeep; have hT2' := Lib.hid hT2; have hput' := Lib.hid hput; have hcurE' := Lib.hid hcurE; have s5' := Lib.hid s5; have hwD' := Lib.hid hwD; have hd' := Lib.hid hd; have hgE' := Lib.hid hgE; have hEs' := Lib.hid hEs; have hEg' := Lib.hid hEg; have hDg' := Lib.hid hDg; have hDgs' := Lib.hid hDgs; have hc0' := Lib.hid hc0; have hgz' := Lib.hid hgz; have hfr' := Lib.hid hfr; have hx' := Lib.hid hx; have hfz' := Lib.hid hfz; clear hkeep hT2 hput hcurE s5 hwD hd hgE hEs hEg hDg hDgs hc0 hgz hfr hx hfz
          go_upto_region 9 with fail
          clear f0; refine wp_noP ?_; refine till_begin (t := 15) (C := fun W => ∃ s, W = f2 s) (by kernel_rfl) 16 rfl ?_; rw [hwD'.out]; refine till_take [0, 1, 2, 3, 4, 5, 6, 7, 8, 9, 10] 5 (by kernel_rfl) noP_put (by kernel_rfl) (by kernel_rfl) (by kernel_rfl) HS.out ?_; simp only [pickL, List.map_cons, List.map_nil, List.getD_cons_succ, List.getD_cons_zero]
          iterate 11 (go_big_quiet_step (fail))
          refine wpQuiet_nil ?_; clear q0 q1; refine till_one 11 4 (by kernel_rfl) (by kernel_rfl) ?_; simp only [pickL, List.map_cons, List.map_nil, List.getD_cons_succ, List.getD_cons_zero]
          go_wp2_with fail
          refine Mid.mk ⟨fun _ => HE.out, ?_⟩; refine till_one 12 3 (by kernel_rfl) (by kernel_rfl) ?_; simp only [pickL, List.map_cons, List.map_nil, List.getD_cons_succ, List.getD_cons_zero]; refine wpList_app rfl _ _ 30 rfl g 5 i8 _ 1 1 Try.underlying30 hi8 hz80 hz81 hz82 rfl (by decide) _ mc _ rfl hcurE'.out (some ⟨wD.heap.size, 0, none⟩) 1 1 _ rfl s5'.out (by simp [Value.oneCell']) (by omega) (by decide) hgE'.out ?_; intro a7 c7 w7 ho7 hb7 hg7; have hb17 := hEg'.out.trans hb7; have hP := hput'.out w7 hb17 a7 (mc + 1) c7 (c ++ [x]) (by rw [ints_append] ; exact ho7); have HS7 := Lib.hid (hkeep'.out w7 hb17); have e0 := (hb17.cell (p := ⟨go, d * 2, none⟩) hgog).trans hc0'.out; have hfr7 : w7.frozen? ⟨go, d * 2, none⟩ = false := hfz'.out w7 hb17; clear ho7 hb7 hg7; have hP' := Lib.hid hP; have hb17' := Lib.hid hb17; clear hP hb17
          go_wp2_with fail
          refine Mid.mk ⟨fun _ => HS7.out, ?_⟩; clear HS; have HS := HS7; refine till_free [13, 14] 1 (by kernel_rfl) noP_put (by kernel_rfl) (by kernel_rfl) (by kernel_rfl) HS.out ?_; simp only [pickL, List.map_cons, List.map_nil, List.getD_cons_succ, List.getD_cons_zero]
          iterate 2 (go_big_quiet_step (fail))
          refine wpQuiet_nil ?_; have e1 : w7.frozen? ⟨go, d * 2, none⟩ = false := hfr7; refine till_one 15 0 (by kernel_rfl) (by kernel_rfl) ?_; simp only [pickL, List.map_cons, List.map_nil, List.getD_cons_succ, List.getD_cons_zero]
          go_wp2_with fail
          refine ⟨fun h => Bool.noConfusion (show true = false from h), ⟨by kernel_rfl, noP_normal ?_⟩⟩; clear e0 e1 hfr7
          go_wp2_with fail
          refine ⟨⟨i + 1, g, _, _, D, ((c ++ [x], m), a7, mc + 1, c7), by omega, by rw [hd'.out]; omega, by show mc + 1 ≤ i + 1; omega, by go_num, by rw [hd'.out], hP', Lib.hid ?_, hT2'⟩, by simp [intOf]; omega⟩
          exact hP'.out.bel.size |> fun _ => by
            have := hb17'.out.size; simp only [World.setCell]
            simpa using Nat.le_trans hgr.out this
      · have hoth : x ≠ 255 ∨ z.length ≤ i + 1 ∨ ∃ y, z[i + 1]? = some y ∧ ¬ (208 ≤ y ∧ y ≤ 215) := .inl c1
        have c10 : (x == 255) = false := by simpa using c1
        clear fa c1
        have hT2 : pieceS z (-1) = D.map (·.1) ++ catP (cu.1.1 ++ [x]) (pieceS (z.drop (i + 1)) cu.1.2) := by
          rw [hT.out, piece_other hx hoth]
        clear hoth; have hG0 := hG.out; obtain ⟨go, rfl, hgoB, hgo, hfr, hcl⟩ := own_at hG0.out (show D.length < D.length + 1 by omega); have hgog := hG0.lt go rfl; have hc0 := hcl _ _ (pcs_last D cu); obtain ⟨d, hd⟩ : ∃ d, D.length = d := ⟨_, rfl⟩; have hput := fun w7 (hb : Below g wr w7) a7 m7 c7 (z7 : List Int) ho => hG0.put (w7 := w7) hb (a7 := a7) (m7 := m7) (c7 := c7) (z7 := z7) ho; have hcur := hG0.cur; have hgsz : g ≤ wr.heap.size ∨ g ≤ wr.heap.size := Or.inl hgr.out; rw [hd] at hc0 hput hDi ⊢; have hDq := (Below.refl wr.heap.size wr).drew; obtain ⟨wD, hwD⟩ : ∃ W, wr.drew = W := ⟨_, rfl⟩; rw [hwD] at hDq; have hDg : Below g wr wD := hDq.mono hgr.out; obtain ⟨Ty2, f2, hnn2, hpr2, hsurj2⟩ := pr_worlds (fun W => W.cell? ⟨go, d * 2, none⟩ = some (.slice cu.2.1 cu.2.2.1 cu.2.2.2) ∧ W.cell? ⟨ga, oa + i, none⟩ = some (.int .u8 x)) wr ⟨hc0, f0⟩; have hgz : ga < g := Nat.lt_of_lt_of_le hga'.out hG0.bas; have hkeep : ∀ W, Below g wr W → ∃ s, W = f2 s := fun W h => hsurj2 W ⟨(h.cell (p := ⟨go, d * 2, none⟩) hgog).trans hc0, (h.cell (p := ⟨ga, oa + i, none⟩) hgz).trans f0⟩; have HS := Lib.hid (hkeep wD hDg); have q0 : ∀ s, (f2 s).cell? ⟨go, d * 2, none⟩ = some (.slice cu.2.1 cu.2.2.1 cu.2.2.2) := fun s => (hpr2 s).1; have q1 : ∀ s, (f2 s).cell? ⟨ga, oa + i, none⟩ = some (.int .u8 x) := fun s => (hpr2 s).2; have hcurD := own_later hcur hDq
        have hfz : ∀ W, Below g wr W → W.frozen? ⟨go, d * 2, none⟩ = false := fun W h => by
          obtain ⟨cur, hblk⟩ := own_at_blk (own_mo hG0.out (mo_from h) (fun k hk hs => by have := hG0.lt k hk; omega)) rfl; exact hblk.frozen _
        have halE := (Below.refl wD.heap.size wD).alloc (Nat.le_refl _) (.cells #[.int .u8 x] 5); have s5 := Sl.new wD 5 1 1 #[.int .u8 x] (0, 0) (by decide) rfl; have hDgs : g ≤ wD.heap.size := Nat.le_trans hgr.out hDq.size; have hcurE := own_later hcurD halE; have hEg : Below g wr (wD.alloc (.cells #[.int .u8 x] 5)) := hDg.trans (halE.mono hDgs); have hEs := hEg.size; have HE := Lib.hid (hkeep _ hEg); obtain ⟨⟨c, m⟩, ac, mc, cc⟩ := cu; simp only at q0 hput hcurE hT2 hmc hcur hcurD hc0; have hgE : g ≤ (wD.alloc (.cells #[.int .u8 x] 5)).heap.size := Nat.le_trans hgr.out hEs; have hdl : (d : Int) + 1 - 1 = d := by omega
        clear hpr2 hcl hG0 hsurj2 hcur hcurD halE hDq hgsz; have hkeep' := Lib.hid hkeep; have hT2' := Lib.hid hT2; have hput' := Lib.hid hput; have hcurE' := Lib.hid hcurE; have s5' := Lib.hid s5; have hwD' := Lib.hid hwD; have hd' := Lib.hid hd; have hgE' := Lib.hid hgE; have hEs' := Lib.hid hEs; have hEg' := Lib.hid hEg; have hDg' := Lib.hid hDg; have hDgs' := Lib.hid hDgs; have hc0' := Lib.hid hc0; have hgz' := Lib.hid hgz; have hfr' := Lib.hid hfr; have hx' := Lib.hid hx; have hfz' := Lib.hid hfz; clear hkeep hT2 hput hcurE s5 hwD hd hgE hEs hEg hDg hDgs hc0 hgz hfr hx hfz
        go_upto_region 9 with fail
        clear f0; refine wp_noP ?_; refine till_begin (t := 15) (C := fun W => ∃ s, W = f2 s) (by kernel_rfl) 16 rfl ?_; rw [hwD'.out]; refine till_take [0, 1, 2, 3, 4, 5, 6, 7, 8, 9, 10] 5 (by kernel_rfl) noP_put (by kernel_rfl) (by kernel_rfl) (by kernel_rfl) HS.out ?_; simp only [pickL, List.map_cons, List.map_nil, List.getD_cons_succ, List.getD_cons_zero]
        iterate 11 (go_big_quiet_step (fail))
        refine wpQuiet_nil ?_; clear q0 q1; refine till_one 11 4 (by kernel_rfl) (by kernel_rfl) ?_; simp only [pickL, List.map_cons, List.map_nil, List.getD_cons_succ, List.getD_cons_zero]
        go_wp2_with fail
        refine Mid.mk ⟨fun _ => HE.out, ?_⟩; refine till_one 12 3 (by kernel_rfl) (by kernel_rfl) ?_; simp only [pickL, List.map_cons, List.map_nil, List.getD_cons_succ, List.getD_cons_zero]; refine wpList_app rfl _ _ 30 rfl g 5 i8 _ 1 1 Try.underlying30 hi8 hz80 hz81 hz82 rfl (by decide) _ mc _ rfl hcurE'.out (some ⟨wD.heap.size, 0, none⟩) 1 1 _ rfl s5'.out (by simp [Value.oneCell']) (by omega) (by decide) hgE'.out ?_; intro a7 c7 w7 ho7 hb7 hg7; have hb17 := hEg'.out.trans hb7; have hP := hput'.out w7 hb17 a7 (mc + 1) c7 (c ++ [x]) (by rw [ints_append] ; exact ho7); have HS7 := Lib.hid (hkeep'.out w7 hb17); have e0 := (hb17.cell (p := ⟨go, d * 2, none⟩) hgog).trans hc0'.out; have hfr7 : w7.frozen? ⟨go, d * 2, none⟩ = false := hfz'.out w7 hb17; clear ho7 hb7 hg7; have hP' := Lib.hid hP; have hb17' := Lib.hid hb17; clear hP hb17
        go_wp2_with fail
        refine Mid.mk ⟨fun _ => HS7.out, ?_⟩; clear HS; have HS := HS7; refine till_free [13, 14] 1 (by kernel_rfl) noP_put (by kernel_rfl) (by kernel_rfl) (by kernel_rfl) HS.out ?_; simp only [pickL, List.map_cons, List.map_nil, List.getD_cons_succ, List.getD_cons_zero]
        iterate 2 (go_big_quiet_step (fail))
        refine wpQuiet_nil ?_; have e1 : w7.frozen? ⟨go, d * 2, none⟩ = false := hfr7; refine till_one 15 0 (by kernel_rfl) (by kernel_rfl) ?_; simp only [pickL, List.map_cons, List.map_nil, List.getD_cons_succ, List.getD_cons_zero]
        go_wp2_with fail
        refine ⟨fun h => Bool.noConfusion (show true = false from h), ⟨by kernel_rfl, noP_normal ?_⟩⟩; clear e0 e1 hfr7
        go_wp2_with fail
        refine ⟨⟨i + 1, g, _, _, D, ((c ++ [x], m), a7, mc + 1, c7), by omega, by rw [hd'.out]; omega, by show mc + 1 ≤ i + 1; omega, by go_num, by rw [hd'.out], hP', Lib.hid ?_, hT2'⟩, by simp [intOf]; omega⟩
        exact hP'.out.bel.size |> fun _ => by
          have := hb17'.out.size; simp only [World.setCell]
          simpa using Nat.le_trans hgr.out this
    · have hin2 : i = n := by omega
      have hT2 := hT.out; rw [List.drop_eq_nil_of_le (by have := hl'.out; omega), piece_end] at hT2; have hG0 := hG.out; have hso := (Sl.of_own hG0.out).1
      have hPR : PcsR wr ao (D.length + 1) co (D ++ [cu]) := ⟨hso, fun p hp => by
        rcases List.mem_append.1 hp with hp | hp
        · exact (Sl.of_own (hG0.old p hp).1).1
        · rw [List.mem_singleton.1 hp]; exact (Sl.of_own hG0.cur).1⟩
      have hbel := hG0.bel; clear hso hG0; have hT2' := Lib.hid hT2; have hPR' := Lib.hid hPR; have hbel' := Lib.hid hbel; clear hT2 hPR hbel
      go_wp2
      go_ret
      exact ⟨ao, D.length + 1, co, D ++ [cu], rfl, hPR'.out, by rw [hT2'.out, List.map_append]; rfl, hbel'.out⟩
end Go.Proofs.Ytpjopeojeglogaa
