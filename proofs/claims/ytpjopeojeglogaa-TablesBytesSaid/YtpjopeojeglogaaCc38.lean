/- Chapter 14: tables of codes that are the same: the law's own. -/
import Derived.Test.YtpjopeojeglogaaCc36
import Derived.Test.YtpjopeojeglogaaCc37
namespace Go.Proofs.Ytpjopeojeglogaa
open Go.RowKit Tt
set_option linter.unusedVariables false
set_option linter.unusedSimpArgs false

set_option maxRecDepth 20000 in
set_option maxHeartbeats 4000000 in
theorem lcoders_eq (a b : Option Addr) (n c d : Nat) (ms ns : List CdM) (w : World) (ha : CdsB w a n c ms) (hb : CdsB w b n d ns) (he : ms.map (·.1) = ns.map (·.1)) :
    Calls Try.prog 60 #[.slice a n c, .slice b n d] w fun e w' => e = .returned (.bool true) ∧ Below w.heap.size w w' := by
  have hl := ha.ilen; have hl2 := hb.ilen; have hmx := ha.sl.max; have hle := ha.sl.le; have hq0 := Below.refl w.heap.size w; have hnb : ((n : Int) != n) = false := by simp
  have ha' := Lib.hid ha; have hb' := Lib.hid hb; have hl' := Lib.hid hl; have hl2' := Lib.hid hl2; have hq0' := Lib.hid hq0; have he' := Lib.hid he; clear ha hb hl hl2 hq0 he
  go_enter Try.func60, Try.ntmps60
  go_wp2
  go_loopw [5, 6, 7, 8] (fun iv _ _ _ wr => ∃ (k : Nat), k ≤ n ∧ iv = .int .i64 k ∧ Hid (Below w.heap.size w wr)) (fun iv _ _ _ _ => n - (intOf iv).toNat)
  case atStart => exact ⟨0, by omega, rfl, hq0'⟩
  case round =>
    obtain ⟨k, hk, rfl, hq⟩ := hrel
    by_cases hlt : k < n
    · obtain ⟨x, hx⟩ : ∃ x, ms[k]? = some x := ⟨_, List.getElem?_eq_getElem (by rw [hl'.out]; exact hlt)⟩
      obtain ⟨y, hy⟩ : ∃ y, ns[k]? = some y := ⟨_, List.getElem?_eq_getElem (by rw [hl2'.out]; exact hlt)⟩
      have hxy : x.1 = y.1 := by
        have h := congrArg (fun l => l[k]?) he'.out; simp only [List.getElem?_map, hx, hy, Option.map_some, Option.some.injEq] at h; exact h
      have kx := ha'.out.ok x (List.mem_of_getElem? hx); have ky := hb'.out.ok y (List.mem_of_getElem? hy); obtain ⟨ba, oa, rfl, hba, fa⟩ := ha'.out.elem hx; obtain ⟨bb, ob, rfl, hbb, fb⟩ := hb'.out.elem hy; have hclx := cMC_len kx.len; have hcly := cMC_len ky.len; obtain ⟨B1, hB1⟩ : ∃ B, (cMC x).toArray = B := ⟨_, rfl⟩; obtain ⟨B2, hB2⟩ : ∃ B, (cMC y).toArray = B := ⟨_, rfl⟩; have hs1 : B1.size = 19 := by rw [← hB1]; simpa using hclx
      have hs2 : B2.size = 19 := by rw [← hB2]; simpa using hcly
      have ho1 : B1.all (·.oneCell') = true := by rw [← hB1]; exact cMC_one
      have ho2 : B2.all (·.oneCell') = true := by rw [← hB2]; exact cMC_one
      obtain ⟨wD, hwD⟩ : ∃ wD, wr.drew = wD := ⟨_, rfl⟩; have hbD := hq.out.drew; rw [hwD] at hbD; obtain ⟨Ty, ff, hne, qq, hsurj⟩ := pr_worlds (fun W => Below w.heap.size w W) wD hbD; have HS := Lib.hid (hsurj _ hbD)
      have fA : ∀ W, (∃ s, W = ff s) → ∀ j v, (cMC x)[j]? = some v → W.cell? ⟨ba, oa + k * 19 + j, none⟩ = some v := fun W h j v hv => by
        obtain ⟨s, rfl⟩ := h; exact ((qq s).cell (p := ⟨ba, oa + k * 19 + j, none⟩) hba).trans (fa j v hv)
      have fB : ∀ W, (∃ s, W = ff s) → ∀ j v, (cMC y)[j]? = some v → W.cell? ⟨bb, ob + k * 19 + j, none⟩ = some v := fun W h j v hv => by
        obtain ⟨s, rfl⟩ := h; exact ((qq s).cell (p := ⟨bb, ob + k * 19 + j, none⟩) hbb).trans (fb j v hv)
      obtain ⟨wA, hwA⟩ : ∃ wA, wD.alloc (.cells #[.int .i64 0, .int .i64 0, .int .i64 0, .int .i64 0, .int .i64 0, .int .i64 0, .int .i64 0, .int .i64 0, .int .i64 0, .int .i64 0, .int .i64 0, .int .i64 0, .int .i64 0, .int .i64 0, .int .i64 0, .int .i64 0, .int .i64 0, .int .i64 0, .slice none 0 0] 165) = wA := ⟨_, rfl⟩; obtain ⟨wB, hwB⟩ : ∃ wB, wA.alloc (.cells #[.int .i64 0, .int .i64 0, .int .i64 0, .int .i64 0, .int .i64 0, .int .i64 0, .int .i64 0, .int .i64 0, .int .i64 0, .int .i64 0, .int .i64 0, .int .i64 0, .int .i64 0, .int .i64 0, .int .i64 0, .int .i64 0, .int .i64 0, .int .i64 0, .slice none 0 0] 165) = wB := ⟨_, rfl⟩; have bA0 := Blk.new wD 165 #[.int .i64 0, .int .i64 0, .int .i64 0, .int .i64 0, .int .i64 0, .int .i64 0, .int .i64 0, .int .i64 0, .int .i64 0, .int .i64 0, .int .i64 0, .int .i64 0, .int .i64 0, .int .i64 0, .int .i64 0, .int .i64 0, .int .i64 0, .int .i64 0, .slice none 0 0]; have halA := (Below.refl wD.heap.size wD).alloc (Nat.le_refl _) (.cells #[.int .i64 0, .int .i64 0, .int .i64 0, .int .i64 0, .int .i64 0, .int .i64 0, .int .i64 0, .int .i64 0, .int .i64 0, .int .i64 0, .int .i64 0, .int .i64 0, .int .i64 0, .int .i64 0, .int .i64 0, .int .i64 0, .int .i64 0, .int .i64 0, .slice none 0 0] 165); rw [hwA] at bA0 halA; have bB0 := Blk.new wA 165 #[.int .i64 0, .int .i64 0, .int .i64 0, .int .i64 0, .int .i64 0, .int .i64 0, .int .i64 0, .int .i64 0, .int .i64 0, .int .i64 0, .int .i64 0, .int .i64 0, .int .i64 0, .int .i64 0, .int .i64 0, .int .i64 0, .int .i64 0, .int .i64 0, .slice none 0 0]; have halB := (Below.refl wA.heap.size wA).alloc (Nat.le_refl _) (.cells #[.int .i64 0, .int .i64 0, .int .i64 0, .int .i64 0, .int .i64 0, .int .i64 0, .int .i64 0, .int .i64 0, .int .i64 0, .int .i64 0, .int .i64 0, .int .i64 0, .int .i64 0, .int .i64 0, .int .i64 0, .int .i64 0, .int .i64 0, .int .i64 0, .slice none 0 0] 165); rw [hwB] at bB0 halB; have bA1 := bA0.late halB; have hgA : wD.heap.size < wA.heap.size := bA0.lt; have hbA := hbD.trans (halA.mono hbD.size); have hbB := hbA.trans (halB.mono hbA.size); have HSA := Lib.hid (hsurj _ hbA); have HSB := Lib.hid (hsurj _ hbB); have hwD0 := hbD.size; clear fa fb qq halA halB bA0; have hx' := Lib.hid hx; have hy' := Lib.hid hy; have hxy' := Lib.hid hxy; have kx' := Lib.hid kx; have ky' := Lib.hid ky; have hclx' := Lib.hid hclx; have hcly' := Lib.hid hcly; have hB1' := Lib.hid hB1; have hB2' := Lib.hid hB2; have hs1' := Lib.hid hs1; have hs2' := Lib.hid hs2; have ho1' := Lib.hid ho1; have ho2' := Lib.hid ho2; have hwD' := Lib.hid hwD; have hbD' := Lib.hid hbD; have hsurj' := Lib.hid hsurj; have fA' := Lib.hid fA; have fB' := Lib.hid fB; have hwA' := Lib.hid hwA; have hwB' := Lib.hid hwB; have bB0' := Lib.hid bB0; have bA1' := Lib.hid bA1; have hbA' := Lib.hid hbA; have hbB' := Lib.hid hbB; have hgA' := Lib.hid hgA; have hwD0' := Lib.hid hwD0; clear hx hy hxy kx ky hclx hcly hB1 hB2 hs1 hs2 ho1 ho2 hwD hbD hsurj fA fB hwA hwB bB0 bA1 hbA hbB hgA hwD0
      go_upto_region 6 with fail
      go_cut [6, 7] from 14 to 80 (fun v u wx => ∃ g6 g7, v = .pointer (some ⟨g6, 0, none⟩) ∧ u = .pointer (some ⟨g7, 0, none⟩) ∧ Hid (Blk wx g6 165 B1) ∧ Hid (Blk wx g7 165 B2) ∧ Hid (Below w.heap.size w wx))
      case first =>
        refine held_begin (S := fun W => ∃ s, W = ff s) (by kernel_rfl) 12 rfl ?_; rw [hwD'.out]; refine held_take [0, 1, 2, 3, 4, 5, 6, 7] 4 (by kernel_rfl) (fun d _ _ _ _ h => by cases d <;> exact h) (by kernel_rfl) (by kernel_rfl) (by kernel_rfl) HS.out ?_; simp only [pickL, List.map_cons, List.map_nil, List.getD_cons_succ, List.getD_cons_zero]
        iterate 3 (go_big_quiet_step (fail))
        refine wpQuiet_load_at rfl 165 (.tmp 22) rfl ba (oa + k * 19) rfl (cMC x) B1 hB1'.out _ fA'.out Try.underlying165 rfl 19 infoC hclx'.out ?_; simp only [Act.put, List.setIfInBounds_toArray, List.set_cons_succ, List.set_cons_zero]
        iterate 3 (go_big_quiet_step (fail))
        refine wpQuiet_load_at rfl 165 (.tmp 26) rfl bb (ob + k * 19) rfl (cMC y) B2 hB2'.out _ fB'.out Try.underlying165 rfl 19 infoC hcly'.out ?_; simp only [Act.put, List.setIfInBounds_toArray, List.set_cons_succ, List.set_cons_zero]; refine wpQuiet_nil ?_; clear hne; refine held_two 8 9 3 (by kernel_rfl) (by kernel_rfl) ?_ ?_
        all_goals simp only [pickL, List.map_cons, List.map_nil, List.getD_cons_succ, List.getD_cons_zero]
        · go_wp2_with fail
          rw [hwA'.out]
          first | refine Mid.mk ⟨HSA.out, ?_⟩ | refine Mid.mk ?_
          refine held_one 9 2 (by kernel_rfl) (by kernel_rfl) ?_; simp only [pickL, List.map_cons, List.map_nil, List.getD_cons_succ, List.getD_cons_zero]
          go_wp2_with fail
          rw [hwB'.out]
          first | refine Mid.mk ⟨HSB.out, ?_⟩ | refine Mid.mk ?_
          have hC1 := rowBelow hbB'.out hwD0'.out B1; have hC2 := rowBelow hC1 (Nat.le_trans hwD0'.out (Nat.le_of_lt hgA'.out)) B2; have p1 : Blk (wB.setRow wD.heap.size B1) wD.heap.size 165 B1 := setRow_heap _ _ _ _ _ _ bA1'.out; have p2 : Blk (wB.setRow wD.heap.size B1) wA.heap.size 165 #[.int .i64 0, .int .i64 0, .int .i64 0, .int .i64 0, .int .i64 0, .int .i64 0, .int .i64 0, .int .i64 0, .int .i64 0, .int .i64 0, .int .i64 0, .int .i64 0, .int .i64 0, .int .i64 0, .int .i64 0, .int .i64 0, .int .i64 0, .int .i64 0, .slice none 0 0] := bB0'.out.but (but_row wD.heap.size B1) (Nat.ne_of_gt hgA'.out); have p3 : Blk ((wB.setRow wD.heap.size B1).setRow wA.heap.size B2) wA.heap.size 165 B2 := setRow_heap _ _ _ _ _ _ p2; have p4 : Blk ((wB.setRow wD.heap.size B1).setRow wA.heap.size B2) wD.heap.size 165 B1 := p1.but (but_row wA.heap.size B2) (Nat.ne_of_lt hgA'.out); have HSC := Lib.hid (hsurj'.out _ hC1); have HSD := Lib.hid (hsurj'.out _ hC2); have hC1' := Lib.hid hC1; have hC2' := Lib.hid hC2; have p1' := Lib.hid p1; have p2' := Lib.hid p2; have p3' := Lib.hid p3; have p4' := Lib.hid p4; clear hC1 hC2 p1 p2 p3 p4; refine held_one 10 1 (by kernel_rfl) (by kernel_rfl) ?_; simp only [pickL, List.map_cons, List.map_nil, List.getD_cons_succ, List.getD_cons_zero]
          go_wp2_with (refine wpList_store_row rfl 165 (.tmp 6) (.tmp 23) rfl wD.heap.size B1 rfl rfl 165 #[.int .i64 0, .int .i64 0, .int .i64 0, .int .i64 0, .int .i64 0, .int .i64 0, .int .i64 0, .int .i64 0, .int .i64 0, .int .i64 0, .int .i64 0, .int .i64 0, .int .i64 0, .int .i64 0, .int .i64 0, .int .i64 0, .int .i64 0, .int .i64 0, .slice none 0 0] bA1'.out (by rw [hs1'.out]; exact infoC) (by rw [hs1'.out]; rfl) ho1'.out ?_)
          first | refine Mid.mk ⟨HSC.out, ?_⟩ | refine Mid.mk ?_
          refine held_one 11 0 (by kernel_rfl) (by kernel_rfl) ?_; simp only [pickL, List.map_cons, List.map_nil, List.getD_cons_succ, List.getD_cons_zero]
          go_wp2_with (refine wpList_store_row rfl 165 (.tmp 7) (.tmp 27) rfl wA.heap.size B2 rfl rfl 165 #[.int .i64 0, .int .i64 0, .int .i64 0, .int .i64 0, .int .i64 0, .int .i64 0, .int .i64 0, .int .i64 0, .int .i64 0, .int .i64 0, .int .i64 0, .int .i64 0, .int .i64 0, .int .i64 0, .int .i64 0, .int .i64 0, .int .i64 0, .int .i64 0, .slice none 0 0] p2'.out (by rw [hs2'.out]; exact infoC) (by rw [hs2'.out]; rfl) ho2'.out ?_)
          first | refine Mid.mk ⟨HSD.out, ?_⟩ | refine Mid.mk ?_
          refine held_last (by kernel_rfl) ?_
          go_wp2_with fail
          go_meet
          case rel => exact ⟨wD.heap.size, wA.heap.size, rfl, rfl, p4', p3', hC2'⟩
        · go_wp2_with fail
          rw [hwA'.out]
          first | refine Mid.mk ⟨HSA.out, ?_⟩ | refine Mid.mk ?_
          refine held_one 8 2 (by kernel_rfl) (by kernel_rfl) ?_; simp only [pickL, List.map_cons, List.map_nil, List.getD_cons_succ, List.getD_cons_zero]
          go_wp2_with fail
          rw [hwB'.out]
          first | refine Mid.mk ⟨HSB.out, ?_⟩ | refine Mid.mk ?_
          have hC1 := rowBelow hbB'.out (Nat.le_trans hwD0'.out (Nat.le_of_lt hgA'.out)) B1; have hC2 := rowBelow hC1 hwD0'.out B2; have p1 : Blk (wB.setRow wA.heap.size B1) wA.heap.size 165 B1 := setRow_heap _ _ _ _ _ _ bB0'.out; have p2 : Blk (wB.setRow wA.heap.size B1) wD.heap.size 165 #[.int .i64 0, .int .i64 0, .int .i64 0, .int .i64 0, .int .i64 0, .int .i64 0, .int .i64 0, .int .i64 0, .int .i64 0, .int .i64 0, .int .i64 0, .int .i64 0, .int .i64 0, .int .i64 0, .int .i64 0, .int .i64 0, .int .i64 0, .int .i64 0, .slice none 0 0] := bA1'.out.but (but_row wA.heap.size B1) (Nat.ne_of_lt hgA'.out); have p3 : Blk ((wB.setRow wA.heap.size B1).setRow wD.heap.size B2) wD.heap.size 165 B2 := setRow_heap _ _ _ _ _ _ p2; have p4 : Blk ((wB.setRow wA.heap.size B1).setRow wD.heap.size B2) wA.heap.size 165 B1 := p1.but (but_row wD.heap.size B2) (Nat.ne_of_gt hgA'.out); have HSC := Lib.hid (hsurj'.out _ hC1); have HSD := Lib.hid (hsurj'.out _ hC2); have hC1' := Lib.hid hC1; have hC2' := Lib.hid hC2; have p1' := Lib.hid p1; have p2' := Lib.hid p2; have p3' := Lib.hid p3; have p4' := Lib.hid p4; clear hC1 hC2 p1 p2 p3 p4; refine held_one 10 1 (by kernel_rfl) (by kernel_rfl) ?_; simp only [pickL, List.map_cons, List.map_nil, List.getD_cons_succ, List.getD_cons_zero]
          go_wp2_with (refine wpList_store_row rfl 165 (.tmp 6) (.tmp 23) rfl wA.heap.size B1 rfl rfl 165 #[.int .i64 0, .int .i64 0, .int .i64 0, .int .i64 0, .int .i64 0, .int .i64 0, .int .i64 0, .int .i64 0, .int .i64 0, .int .i64 0, .int .i64 0, .int .i64 0, .int .i64 0, .int .i64 0, .int .i64 0, .int .i64 0, .int .i64 0, .int .i64 0, .slice none 0 0] bB0'.out (by rw [hs1'.out]; exact infoC) (by rw [hs1'.out]; rfl) ho1'.out ?_)
          first | refine Mid.mk ⟨HSC.out, ?_⟩ | refine Mid.mk ?_
          refine held_one 11 0 (by kernel_rfl) (by kernel_rfl) ?_; simp only [pickL, List.map_cons, List.map_nil, List.getD_cons_succ, List.getD_cons_zero]
          go_wp2_with (refine wpList_store_row rfl 165 (.tmp 7) (.tmp 27) rfl wD.heap.size B2 rfl rfl 165 #[.int .i64 0, .int .i64 0, .int .i64 0, .int .i64 0, .int .i64 0, .int .i64 0, .int .i64 0, .int .i64 0, .int .i64 0, .int .i64 0, .int .i64 0, .int .i64 0, .int .i64 0, .int .i64 0, .int .i64 0, .int .i64 0, .int .i64 0, .int .i64 0, .slice none 0 0] p2'.out (by rw [hs2'.out]; exact infoC) (by rw [hs2'.out]; rfl) ho2'.out ?_)
          first | refine Mid.mk ⟨HSD.out, ?_⟩ | refine Mid.mk ?_
          refine held_last (by kernel_rfl) ?_
          go_wp2_with fail
          go_meet
          case rel => exact ⟨wA.heap.size, wD.heap.size, rfl, rfl, p4', p3', hC2'⟩
      case rest =>
        obtain ⟨g6, g7, rfl, rfl, P6, P7, hbc⟩ := hcut; clear HS HSA HSB bB0' bA1' hbA' hbB' hgA' hwA' hwB' hwD' hbD' hwD0' fA' fB' hsurj' hne; obtain ⟨⟨cl, id, cnt, ss⟩, sa, sn, sc⟩ := x; obtain ⟨yc, ta, tn, tc⟩ := y; obtain rfl : (cl, id, cnt, ss) = yc := hxy'.out; have P6 := P6.out; have P7 := P7.out; rw [← hB1'.out] at P6; rw [← hB2'.out] at P7; obtain ⟨f0, f1, f18, fall⟩ := cB_cells (m := ((cl, id, cnt, ss), sa, sn, sc)) kx'.out.len P6; obtain ⟨e0, e1, e18, eall⟩ := cB_cells (m := ((cl, id, cnt, ss), ta, tn, tc)) ky'.out.len P7; have h16 : cnt.length = 16 := kx'.out.len; have hc16 : (ints .i64 cnt).length = 16 := by rw [ints_len, h16]
        have fC : ∀ j v, (ints .i64 cnt)[j]? = some v → wc.cell? ⟨g6, 2 + j, none⟩ = some v := fun j v hv => fall j v (by rw [List.getElem?_append_left (List.getElem?_eq_some_iff.1 hv).1]; exact hv); have eC : ∀ j v, (ints .i64 cnt)[j]? = some v → wc.cell? ⟨g7, 2 + j, none⟩ = some v := fun j v hv => eall j v (by rw [List.getElem?_append_left (List.getElem?_eq_some_iff.1 hv).1]; exact hv); obtain ⟨C, hC⟩ : ∃ C, (ints .i64 cnt).toArray = C := ⟨_, rfl⟩; have hnq := fun W => neq_arr (T := 43) W cnt C hC h16 Try.underlying43; have sx := (kx'.out.sl).mono hbc.out; have sy := (ky'.out.sl).mono hbc.out; have lx : ss.length = sn := sx.ilen; have ly : ss.length = tn := sy.ilen; obtain rfl : sn = tn := lx.symm.trans ly; have b1 : (cl != cl) = false := by simp
        have b2 : (id != id) = false := by simp
        have b3 : ((sn : Int) != sn) = false := by simp
        have sxm := sx.max; have sxe := sx.le; clear fall eall; have P6' := Lib.hid P6; have P7' := Lib.hid P7; have h16' := Lib.hid h16; have hc16' := Lib.hid hc16; have fC' := Lib.hid fC; have eC' := Lib.hid eC; have hC' := Lib.hid hC; have sx' := Lib.hid sx; have sy' := Lib.hid sy; have lx' := Lib.hid lx; have ly' := Lib.hid ly; clear P6 P7 h16 hc16 fC eC hC sx sy lx ly
        go_upto_region 9 with (first
          | (refine wpList_load_atW rfl 43 (.tmp 42) rfl g6 2 rfl (ints .i64 cnt) C hC'.out _ fC'.out Try.underlying43 rfl 16 infoN16 hc16'.out ?_)
          | (refine wpList_load_atW rfl 43 (.tmp 45) rfl g7 2 rfl (ints .i64 cnt) C hC'.out _ eC'.out Try.underlying43 rfl 16 infoN16 hc16'.out ?_))
        clear hnq f0 f1 e0 e1
        go_wp2
        have hq1 := Lib.hid (Qt.refl wc)
        go_loopw [8] (fun jv wy => ∃ (j : Nat), j ≤ sn ∧ jv = .int .i64 j ∧ Hid (Qt wc wy)) (fun jv _ => sn - (intOf jv).toNat)
        case atStart => exact ⟨0, by omega, rfl, hq1⟩
        case round =>
          obtain ⟨j, hj, rfl, hqq⟩ := hrel; obtain ⟨dq, hdq⟩ := hqq.out.ex; subst hdq
          by_cases hlj : j < sn
          · obtain ⟨s, hs⟩ : ∃ s, ss[j]? = some s := ⟨_, List.getElem?_eq_getElem (by rw [lx'.out]; exact hlj)⟩
            have hsd : ss.getD j 0 = s := by rw [List.getD_eq_getElem?_getD, hs]; rfl
            obtain ⟨b8, o8, rfl, hb8, f8⟩ := sx'.out.at hlj; obtain ⟨b9, o9, rfl, hb9, f9⟩ := sy'.out.at hlj; have u1 : wc.cell? ⟨b8, o8 + j, none⟩ = some (.int .i64 s) := f8 j _ (by rw [ints_get (by rw [lx'.out]; exact hlj), hsd]); have u2 : wc.cell? ⟨b9, o9 + j, none⟩ = some (.int .i64 s) := f9 j _ (by rw [ints_get (by rw [lx'.out]; exact hlj), hsd]); have hss : (s != s) = false := by simp
            clear f8 f9; have hs' := Lib.hid hs; have hsd' := Lib.hid hsd; clear hs hsd
            go_wp2
            go_quiet (fail)
            go_wp2
            go_roundw
            case rel => exact ⟨j + 1, by omega, by go_num, Lib.hid ⟨_, rfl⟩⟩
            case measure => simp [intOf]; omega
          · have hbd := hbc.out.trans (hqq.out.below _)
            have hbd' := Lib.hid hbd; clear hbd
            go_wp2
            go_roundw
            case rel => exact ⟨k + 1, by omega, by go_num, hbd'⟩
            case measure => simp [intOf]; omega
    · go_wp2
      go_ret
      exact ⟨rfl, hq.out⟩
end Go.Proofs.Ytpjopeojeglogaa
