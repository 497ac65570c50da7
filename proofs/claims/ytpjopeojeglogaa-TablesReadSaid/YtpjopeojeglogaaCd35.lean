/- Chapter 14: two rows that are the same: the document. -/
import Derived.Test.YtpjopeojeglogaaCd34
namespace Go.Proofs.Ytpjopeojeglogaa
open Go.RowKit Tt
set_option linter.unusedVariables false
set_option linter.unusedSimpArgs false

set_option maxRecDepth 20000 in
set_option maxHeartbeats 2000000 in
theorem rsameQ_eq (a b : Option Addr) (n c d : Nat) (l : List Qt64) (w : World) (ha : QsR w a n c l) (hb : QsR w b n d l) :
    Calls Try.prog 48 #[.slice a n c, .slice b n d] w fun e w' => e = .returned (.bool true) ∧ Below w.heap.size w w' := by
  have hl := ha.ilen; have hmx := ha.sl.max; have hle := ha.sl.le; have hq0 := Below.refl w.heap.size w; have hnb : ((n : Int) != n) = false := by simp
  have ha' := Lib.hid ha; have hb' := Lib.hid hb; have hl' := Lib.hid hl; have hq0' := Lib.hid hq0; clear ha hb hl hq0
  go_enter Try.func48, Try.ntmps48
  go_wp2
  go_loopw [5] (fun iv wr => ∃ (k : Nat), k ≤ n ∧ iv = .int .i64 k ∧ Hid (Below w.heap.size w wr)) (fun iv _ => n - (intOf iv).toNat)
  case atStart => exact ⟨0, by omega, rfl, hq0'⟩
  case round =>
    obtain ⟨k, hk, rfl, hq⟩ := hrel
    by_cases hlt : k < n
    · obtain ⟨x, hx⟩ : ∃ x, l[k]? = some x := ⟨_, List.getElem?_eq_getElem (by rw [hl'.out]; exact hlt)⟩
      have hql := ha'.out.len x (List.mem_of_getElem? hx); have hcl := qC_len hql; obtain ⟨ba, oa, rfl, hba, fa⟩ := ha'.out.elem hx; obtain ⟨bb, ob, rfl, hbb, fb⟩ := hb'.out.elem hx; obtain ⟨B, hB⟩ : ∃ B, (qC x).toArray = B := ⟨_, rfl⟩; have hnq := fun W => neq_q W x B hB hql; obtain ⟨wD, hwD⟩ : ∃ wD, wr.drew = wD := ⟨_, rfl⟩; have hbD := hq.out.drew; rw [hwD] at hbD; obtain ⟨Ty, ff, hne, qq, hsurj⟩ := pr_worlds (fun W => Below w.heap.size w W) wD hbD; have HS := Lib.hid (hsurj _ hbD)
      have fA : ∀ W, (∃ s, W = ff s) → ∀ j v, (qC x)[j]? = some v → W.cell? ⟨ba, oa + k * 65 + j, none⟩ = some v := fun W h j v hv => by
        obtain ⟨s, rfl⟩ := h; exact ((qq s).cell (p := ⟨ba, oa + k * 65 + j, none⟩) hba).trans (fa j v hv)
      have fB : ∀ W, (∃ s, W = ff s) → ∀ j v, (qC x)[j]? = some v → W.cell? ⟨bb, ob + k * 65 + j, none⟩ = some v := fun W h j v hv => by
        obtain ⟨s, rfl⟩ := h; exact ((qq s).cell (p := ⟨bb, ob + k * 65 + j, none⟩) hbb).trans (fb j v hv)
      clear fa fb; have hx' := Lib.hid hx; have hcl' := Lib.hid hcl; have hB' := Lib.hid hB; have hwD' := Lib.hid hwD; have hbD' := Lib.hid hbD; have qq' := Lib.hid qq; have hsurj' := Lib.hid hsurj; have fA' := Lib.hid fA; have fB' := Lib.hid fB; have hql' := Lib.hid hql; clear hx hcl hB hwD hbD qq hsurj fA fB hql
      go_wp2
      refine held_begin (S := fun W => ∃ s, W = ff s) (by kernel_rfl) 9 rfl ?_; rw [hwD'.out]; refine held_take [0, 1, 2, 3, 4, 5, 6, 7] 1 (by kernel_rfl) (fun d _ _ _ _ h => by cases d <;> exact h) (by kernel_rfl) (by kernel_rfl) (by kernel_rfl) HS.out ?_; simp only [pickL, List.map_cons, List.map_nil, List.getD_cons_succ, List.getD_cons_zero]
      iterate 3 (go_big_quiet_step (fail))
      refine wpQuiet_load_at rfl 172 (.tmp 19) rfl ba (oa + k * 65) rfl (qC x) B hB'.out _ fA'.out Try.underlying172 rfl 65 infoQ hcl'.out ?_; simp only [Act.put, List.setIfInBounds_toArray, List.set_cons_succ, List.set_cons_zero]
      iterate 3 (go_big_quiet_step (fail))
      refine wpQuiet_load_at rfl 172 (.tmp 23) rfl bb (ob + k * 65) rfl (qC x) B hB'.out _ fB'.out Try.underlying172 rfl 65 infoQ hcl'.out ?_; simp only [Act.put, List.setIfInBounds_toArray, List.set_cons_succ, List.set_cons_zero]; refine wpQuiet_nil ?_; refine held_one 8 0 (by kernel_rfl) (by kernel_rfl) ?_; simp only [pickL, List.map_cons, List.map_nil, List.getD_cons_succ, List.getD_cons_zero]
      go_wp2_with fail
      first | refine Mid.mk ⟨HS.out, ?_⟩ | refine Mid.mk ?_
      refine held_last (by kernel_rfl) ?_; clear HS
      go_wp2
      go_roundw
      case rel => exact ⟨k + 1, by omega, by go_num, hbD'⟩
      case measure => simp [intOf]; omega
    · go_wp2
      go_ret
      exact ⟨rfl, hq.out⟩
set_option maxRecDepth 20000 in
set_option maxHeartbeats 2000000 in
theorem rsameU_eq (a b : Option Addr) (n c d : Nat) (l : List Use3) (w : World) (ha : StR useL 3 w a n c l) (hb : StR useL 3 w b n d l) :
    Calls Try.prog 57 #[.slice a n c, .slice b n d] w fun e w' => e = .returned (.bool true) ∧ Qt w w' := by
  have hl := ha.len; have hmx := ha.sl.max; have hle := ha.sl.le; have hq0 := Qt.refl w; have hnb : ((n : Int) != n) = false := by simp
  have ha' := Lib.hid ha; have hb' := Lib.hid hb; have hl' := Lib.hid hl; have hq0' := Lib.hid hq0; clear ha hb hl hq0
  go_enter Try.func57, Try.ntmps57
  go_wp2
  go_loopw [5] (fun iv wr => ∃ (k : Nat), k ≤ n ∧ iv = .int .i64 k ∧ Hid (Qt w wr)) (fun iv _ => n - (intOf iv).toNat)
  case atStart => exact ⟨0, by omega, rfl, hq0'⟩
  case round =>
    obtain ⟨k, hk, rfl, hq⟩ := hrel; obtain ⟨dq, rfl⟩ := hq.out.ex
    by_cases hlt : k < n
    · obtain ⟨x, hx⟩ : ∃ x, l[k]? = some x := ⟨_, List.getElem?_eq_getElem (by rw [hl'.out]; exact hlt)⟩
      obtain ⟨ba, oa, rfl, _, fa⟩ := ha'.out.elem useL_len hx; obtain ⟨bb, ob, rfl, _, fb⟩ := hb'.out.elem useL_len hx; obtain ⟨x0, x1, x2⟩ := x; have f0 : w.cell? ⟨ba, oa + k * 3, none⟩ = some (.int .i64 x0) := fa 0 _ rfl; have f1 : w.cell? ⟨ba, oa + k * 3 + 1, none⟩ = some (.int .i64 x1) := fa 1 _ rfl; have f2 : w.cell? ⟨ba, oa + k * 3 + 2, none⟩ = some (.int .i64 x2) := fa 2 _ rfl; have e0 : w.cell? ⟨bb, ob + k * 3, none⟩ = some (.int .i64 x0) := fb 0 _ rfl; have e1 : w.cell? ⟨bb, ob + k * 3 + 1, none⟩ = some (.int .i64 x1) := fb 1 _ rfl; have e2 : w.cell? ⟨bb, ob + k * 3 + 2, none⟩ = some (.int .i64 x2) := fb 2 _ rfl; clear fa fb; have hx' := Lib.hid hx; clear hx
      go_wp2
      go_quiet (fail)
      go_wp2
      go_roundw
      case rel => exact ⟨k + 1, by omega, by go_num, Lib.hid ⟨_, rfl⟩⟩
      case measure => simp [intOf]; omega
    · go_wp2
      go_ret
      exact ⟨rfl, hq.out⟩
set_option maxRecDepth 20000 in
set_option maxHeartbeats 2000000 in
theorem rsameF_eq (W H : Int) (a b : Option Addr) (n c d : Nat) (l : List Cmp4) (w : World) (ha : StR cmpL 4 w a n c l) (hb : StR cmpL 4 w b n d l) :
    Calls Try.prog 54 #[.agg #[.int .i64 W, .int .i64 H, .slice a n c], .agg #[.int .i64 W, .int .i64 H, .slice b n d]] w fun e w' => e = .returned (.bool true) ∧ Below w.heap.size w w' := by
  have hl := ha.len; have hmx := ha.sl.max; have hle := ha.sl.le; have hnb : ((n : Int) != n) = false := by simp
  have hWb : (W != W) = false := by simp
  have hHb : (H != H) = false := by simp
  obtain ⟨W1, hW1, bA, bB, hb1, hsz1⟩ := two_boxes w 56 #[.int .i64 W, .int .i64 H, .slice a n c] 56 #[.int .i64 W, .int .i64 H, .slice b n d]; have k0 : W1.cell? ⟨w.heap.size, 0, none⟩ = some (.int .i64 W) := bA.cell rfl; have k1 : W1.cell? ⟨w.heap.size, 1, none⟩ = some (.int .i64 H) := bA.cell rfl; have k2 : W1.cell? ⟨w.heap.size, 2, none⟩ = some (.slice a n c) := bA.cell rfl; have j0 : W1.cell? ⟨w.heap.size + 1, 0, none⟩ = some (.int .i64 W) := bB.cell rfl; have j1 : W1.cell? ⟨w.heap.size + 1, 1, none⟩ = some (.int .i64 H) := bB.cell rfl; have j2 : W1.cell? ⟨w.heap.size + 1, 2, none⟩ = some (.slice b n d) := bB.cell rfl; have hq0 := Qt.refl W1; have ha1 := ha.mono hb1; have hb2 := hb.mono hb1; clear bA bB; have ha' := Lib.hid ha; have hb' := Lib.hid hb; have hl' := Lib.hid hl; have hq0' := Lib.hid hq0; have hW1' := Lib.hid hW1; have hb1' := Lib.hid hb1; have hsz1' := Lib.hid hsz1; have ha1' := Lib.hid ha1; have hb2' := Lib.hid hb2; clear ha hb hl hq0 hW1 hb1 hsz1 ha1 hb2
  go_enter Try.func54, Try.ntmps54
  go_upto_region 1 with fail
  rw [hW1'.out]
  go_wp2
  go_loopw [5] (fun iv wr => ∃ (k : Nat), k ≤ n ∧ iv = .int .i64 k ∧ Hid (Qt W1 wr)) (fun iv _ => n - (intOf iv).toNat)
  case atStart => exact ⟨0, by omega, rfl, hq0'⟩
  case round =>
    obtain ⟨k, hk, rfl, hq⟩ := hrel; obtain ⟨dq, rfl⟩ := hq.out.ex
    by_cases hlt : k < n
    · obtain ⟨x, hx⟩ : ∃ x, l[k]? = some x := ⟨_, List.getElem?_eq_getElem (by rw [hl'.out]; exact hlt)⟩
      obtain ⟨ba, oa, rfl, _, fa⟩ := ha1'.out.elem cmpL_len hx; obtain ⟨bb, ob, rfl, _, fb⟩ := hb2'.out.elem cmpL_len hx; obtain ⟨x0, x1, x2, x3⟩ := x; have f0 : W1.cell? ⟨ba, oa + k * 4, none⟩ = some (.int .i64 x0) := fa 0 _ rfl; have f1 : W1.cell? ⟨ba, oa + k * 4 + 1, none⟩ = some (.int .i64 x1) := fa 1 _ rfl; have f2 : W1.cell? ⟨ba, oa + k * 4 + 2, none⟩ = some (.int .i64 x2) := fa 2 _ rfl; have f3 : W1.cell? ⟨ba, oa + k * 4 + 3, none⟩ = some (.int .i64 x3) := fa 3 _ rfl; have e0 : W1.cell? ⟨bb, ob + k * 4, none⟩ = some (.int .i64 x0) := fb 0 _ rfl; have e1 : W1.cell? ⟨bb, ob + k * 4 + 1, none⟩ = some (.int .i64 x1) := fb 1 _ rfl; have e2 : W1.cell? ⟨bb, ob + k * 4 + 2, none⟩ = some (.int .i64 x2) := fb 2 _ rfl; have e3 : W1.cell? ⟨bb, ob + k * 4 + 3, none⟩ = some (.int .i64 x3) := fb 3 _ rfl; clear fa fb; have hx' := Lib.hid hx; clear hx
      go_wp2
      go_quiet (fail)
      go_wp2
      go_roundw
      case rel => exact ⟨k + 1, by omega, by go_num, Lib.hid ⟨_, rfl⟩⟩
      case measure => simp [intOf]; omega
    · go_wp2
      go_ret
      exact ⟨rfl, hb1'.out.trans (hq.out.below _)⟩
set_option maxRecDepth 20000 in
set_option maxHeartbeats 2000000 in
theorem rsameH_eq (cnt ss : List Int) (sa ta : Option Addr) (sn sc tc : Nat) (A B : Array Value) (hA : (ints .i64 cnt ++ [Value.slice sa sn sc]).toArray = A) (hB : (ints .i64 cnt ++ [Value.slice ta sn tc]).toArray = B) (w : World) (h16 : cnt.length = 16) (hx : Sl w sa sn sc 1 (ints .i64 ss)) (hy : Sl w ta sn tc 1 (ints .i64 ss)) :
    Calls Try.prog 67 #[.agg A, .agg B] w fun e w' => e = .returned (.bool true) ∧ Below w.heap.size w w' := by
  have lx := hx.ilen; have hmx := hx.max; have hle := hx.le; have hnb : ((sn : Int) != sn) = false := by simp
  obtain ⟨W1, hW1, bA, bB, hb1, hsz1⟩ := two_boxes w 45 A 45 B; have fall : ∀ j v, (ints .i64 cnt ++ [Value.slice sa sn sc])[j]? = some v → W1.cell? ⟨w.heap.size, 0 + j, none⟩ = some v := fun j v hv => bA.cell (by rw [← hA, List.getElem?_toArray, Nat.zero_add]; exact hv); have eall : ∀ j v, (ints .i64 cnt ++ [Value.slice ta sn tc])[j]? = some v → W1.cell? ⟨w.heap.size + 1, 0 + j, none⟩ = some v := fun j v hv => bB.cell (by rw [← hB, List.getElem?_toArray, Nat.zero_add]; exact hv); have fC : ∀ j v, (ints .i64 cnt)[j]? = some v → W1.cell? ⟨w.heap.size, 0 + j, none⟩ = some v := fun j v hv => fall j v (by rw [List.getElem?_append_left (List.getElem?_eq_some_iff.1 hv).1]; exact hv); have eC : ∀ j v, (ints .i64 cnt)[j]? = some v → W1.cell? ⟨w.heap.size + 1, 0 + j, none⟩ = some v := fun j v hv => eall j v (by rw [List.getElem?_append_left (List.getElem?_eq_some_iff.1 hv).1]; exact hv)
  have k16 : W1.cell? ⟨w.heap.size, 16, none⟩ = some (.slice sa sn sc) := by
    have h := fall 16 (.slice sa sn sc) (by rw [List.getElem?_append_right (by rw [ints_len]; omega), ints_len, h16]; rfl)
    rwa [Nat.zero_add] at h
  have j16 : W1.cell? ⟨w.heap.size + 1, 16, none⟩ = some (.slice ta sn tc) := by
    have h := eall 16 (.slice ta sn tc) (by rw [List.getElem?_append_right (by rw [ints_len]; omega), ints_len, h16]; rfl)
    rwa [Nat.zero_add] at h
  obtain ⟨C, hC⟩ : ∃ C, (ints .i64 cnt).toArray = C := ⟨_, rfl⟩; have hnq := fun W => neq_arr (T := 43) W cnt C hC h16 Try.underlying43; have hc16 : (ints .i64 cnt).length = 16 := by rw [ints_len, h16]
  have sx := hx.mono hb1; have sy := hy.mono hb1; have hq1 := Lib.hid (Qt.refl W1); clear fall eall bA bB; have hA' := Lib.hid hA; have hB' := Lib.hid hB; have h16' := Lib.hid h16; have hx' := Lib.hid hx; have hy' := Lib.hid hy; have lx' := Lib.hid lx; have hW1' := Lib.hid hW1; have hb1' := Lib.hid hb1; have hsz1' := Lib.hid hsz1; have fC' := Lib.hid fC; have eC' := Lib.hid eC; have hC' := Lib.hid hC; have hc16' := Lib.hid hc16; have sx' := Lib.hid sx; have sy' := Lib.hid sy; clear hA hB h16 hx hy lx hW1 hb1 hsz1 fC eC hC hc16 sx sy
  go_enter Try.func67, Try.ntmps67
  go_upto_region 1 with fail
  rw [hW1'.out]
  go_upto_region 3 with (first
    | (refine wpList_load_atW rfl 43 (.tmp 6) rfl w.heap.size 0 rfl (ints .i64 cnt) C hC'.out _ fC'.out Try.underlying43 rfl 16 infoN16 hc16'.out ?_)
    | (refine wpList_load_atW rfl 43 (.tmp 8) rfl (w.heap.size + 1) 0 rfl (ints .i64 cnt) C hC'.out _ eC'.out Try.underlying43 rfl 16 infoN16 hc16'.out ?_))
  clear hnq
  go_wp2
  go_loopw [5] (fun jv wy => ∃ (j : Nat), j ≤ sn ∧ jv = .int .i64 j ∧ Hid (Qt W1 wy)) (fun jv _ => sn - (intOf jv).toNat)
  case atStart => exact ⟨0, by omega, rfl, hq1⟩
  case round =>
    obtain ⟨j, hj, rfl, hqq⟩ := hrel; obtain ⟨dq, hdq⟩ := hqq.out.ex; subst hdq
    by_cases hlj : j < sn
    · obtain ⟨s, hs⟩ : ∃ s, ss[j]? = some s := ⟨_, List.getElem?_eq_getElem (by rw [lx'.out]; exact hlj)⟩
      have hsd : ss.getD j 0 = s := by rw [List.getD_eq_getElem?_getD, hs]; rfl
      obtain ⟨b8, o8, rfl, hb8, f8⟩ := sx'.out.at hlj; obtain ⟨b9, o9, rfl, hb9, f9⟩ := sy'.out.at hlj; have u1 : W1.cell? ⟨b8, o8 + j, none⟩ = some (.int .i64 s) := f8 j _ (by rw [ints_get (by rw [lx'.out]; exact hlj), hsd]); have u2 : W1.cell? ⟨b9, o9 + j, none⟩ = some (.int .i64 s) := f9 j _ (by rw [ints_get (by rw [lx'.out]; exact hlj), hsd]); have hss : (s != s) = false := by simp
      clear f8 f9; have hs' := Lib.hid hs; have hsd' := Lib.hid hsd; clear hs hsd
      go_wp2
      go_quiet (fail)
      go_wp2
      go_roundw
      case rel => exact ⟨j + 1, by omega, by go_num, Lib.hid ⟨_, rfl⟩⟩
      case measure => simp [intOf]; omega
    · have hbd := hb1'.out.trans (hqq.out.below _)
      have hbd' := Lib.hid hbd; clear hbd
      go_wp2
      go_ret
      exact ⟨rfl, hbd'.out⟩
end Go.Proofs.Ytpjopeojeglogaa
