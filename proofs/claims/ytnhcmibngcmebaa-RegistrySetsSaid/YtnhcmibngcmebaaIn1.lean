/- slices.Insert of one tag into a row that the call owns. -/
import Derived.Test.YtnhcmibngcmebaaCp
namespace Go.Proofs.Ytnhcmibngcmebaa
open Go.RowKit Tt
set_option linter.unusedVariables false
set_option linter.unusedSimpArgs false

theorem infoT : (Try.prog.info? 26).map (fun i => (i.size, i.bytes)) = some (4, 48) := by kernel_rfl
theorem infoTz : (Try.prog.info? 26).map (fun i => i.zero.map (fun z => z.cells.size)) = some (some 4) := by kernel_rfl
theorem infoT_parts : ∃ (i : TypeInfo) (z : Value), Try.prog.info? 26 = some i ∧ i.zero = some z ∧ i.size = 4 ∧ i.bytes = 48 ∧ z.cells.size = 4 := by
  have h1 := infoT
  have h2 := infoTz
  revert h1 h2
  cases Try.prog.info? 26 with
  | none => intro h1 _; cases h1
  | some i =>
    intro h1 h2
    simp only [Option.map_some, Option.some.injEq, Prod.mk.injEq] at h1 h2
    cases hz : i.zero with
    | none => rw [hz] at h2; cases h2
    | some z => rw [hz] at h2; simp only [Option.map_some, Option.some.injEq] at h2; exact ⟨i, z, rfl, hz, h1.1, h1.2, h2⟩
theorem sizeT : ∀ w, (Go.sizeOf 26).run Try.prog w = .ok 4 w := fun w => by kernel_rfl
theorem sizeTm : (Try.prog.info? 26).map (·.size) = some 4 := by kernel_rfl

set_option maxRecDepth 100000 in
set_option maxHeartbeats 4000000 in
theorem insert_any (B : Nat) (a : Option Addr) (n c : Nat) (cs : List Value) (i g' : Nat) (ec : Array Value) (w : World) (hown : w.ownsRow B 26 4 (.slice a n c) n cs) (hB : B ≤ w.heap.size) (hi : i ≤ n) (hl : n ≤ 1000000)
    (hv : Blk w g' 26 ec) (hvl : ec.size = 4) (hne : (Value.slice a n c).ownBlock ≠ some g') (h1c : ∀ v ∈ cs, v.oneCell' = true) (h1v : ∀ v ∈ ec.toList, v.oneCell' = true) :
    Calls Try.prog 45 #[.slice a n c, .int .i64 i, .slice (some ⟨g', 0, none⟩) 1 1] w fun e w' => ∃ a' c', e = .returned (.slice a' (n + 1) c') ∧
      w'.ownsRow B 26 4 (.slice a' (n + 1) c') (n + 1) (cs.take (i * 4) ++ ec.toList ++ cs.drop (i * 4)) ∧ w.grownBy w' (Value.slice a n c).ownBlock := by
  obtain ⟨i0, z0, hi0, hz, hz1, hz2, hz3⟩ := infoT_parts
  have hS := (Sl.of_own hown).1
  have hcl := hS.len
  have hle := hS.le
  have hmx := hS.max
  obtain ⟨a1, cut1, _, _⟩ := sub_l (P := Try.prog) Try.underlying27 sizeT hS (i : Int) (by omega) (by omega) (n - i) (c - i) (by omega) (by omega)
  have hvS : Sl w (some ⟨g', 0, none⟩) 1 1 4 ec.toList := ⟨by rw [Array.length_toList, hvl], Nat.le_refl _, by omega, fun k _ => ⟨g', 0, rfl, hv.lt, fun j v hj => by rw [Nat.zero_add]; exact hv.cell (by rw [← hj]; simp)⟩, fun h => by cases h⟩
  by_cases hin : i = n
  · subst hin
    have d1 : ((i : Int) == (i : Int)) = true := by simp
    have hown' := Lib.hid hown
    have hS' := Lib.hid hS
    have hcl' := Lib.hid hcl
    have hvS' := Lib.hid hvS
    have hv' := Lib.hid hv
    have hne' := Lib.hid hne
    have h1c' := Lib.hid h1c
    clear hown hS hcl hvS hv hne h1c
    go_enter Try.func45, Try.ntmps45
    go_wp2_with (at_builtin; refine wpList_app rfl _ _ 27 rfl B 26 i0 z0 4 48 Try.underlying27 hi0 hz hz1 hz2 hz3 (by decide) _ i _ rfl hown'.out _ 1 1 _ rfl hvS'.out h1v (by omega) (by decide) hB ?_; intro a5 c5 w5 ob hb5 hg5; have Ob := Lib.hid ob; have Hg5 := Lib.hid hg5; clear ob hb5 hg5)
    go_ret
    exact ⟨_, _, rfl, by rw [List.take_of_length_le (by rw [hcl'.out]; exact Nat.le_refl _), List.drop_of_length_le (by rw [hcl'.out]; exact Nat.le_refl _), List.append_nil]; exact Ob.out, Hg5.out⟩
  · have d1 : ((i : Int) == (n : Int)) = false := by simp; omega
    have d1' : (i == n) = false := by simp; omega
    obtain ⟨g, cur, rfl, hBg, hblk, _, hcm, hcs, htk, _⟩ := own_block hown (by omega)
    have hgne : g ≠ g' := fun e => hne (by rw [← e]; rfl)
    have hw1 : IntKind.i64.wrap ((n : Int) + 1) = n + 1 := by rw [IntKind.wrap_i64]; omega
    have hw2 : IntKind.i64.wrap ((i : Int) + 1) = i + 1 := by rw [IntKind.wrap_i64]; omega
    have hw3 : IntKind.i64.wrap ((n : Int) + 1 - i) = n + 1 - i := by rw [IntKind.wrap_i64]; omega
    have hci : ¬ (c = i) := by omega
    have hn4 : (n : Nat) * 4 ≤ cur.size := by rw [hcs]; exact Nat.mul_le_mul_right _ hle
    have hsrc : ∀ j v, (cs.drop (i * 4))[j]? = some v → w.cell? ⟨g, i * 4 + j, none⟩ = some v := fun j v hj => by
      rw [List.getElem?_drop, ← htk, List.getElem?_take] at hj
      split at hj
      · exact hblk.cell (by rw [← hj]; simp)
      · cases hj
    have h1d : ∀ v ∈ cs.drop (i * 4), v.oneCell' = true := fun v hv => h1c v (List.mem_of_mem_drop hv)
    have hdl : (cs.drop (i * 4)).length = (n - i) * 4 := by rw [List.length_drop, hcl, Nat.sub_mul]
    by_cases hfit : n + 1 ≤ c
    · have d2 : decide ((c : Int) < (n : Int) + 1) = false := by simp; omega
      have d2' : decide (c < n + 1) = false := by simp; omega
      have c60 := slice_h_at (P := Try.prog) Try.underlying27 sizeT g 0 n c (n + 1) ((n : Int) + 1) (by omega) hfit
      have c66 := slice_l_at (P := Try.prog) Try.underlying27 sizeT g 0 (n + 1) c (i + 1) ((i : Int) + 1) (by omega) (by omega) hfit (by omega)
      have c75 := slice_l_at (P := Try.prog) Try.underlying27 sizeT g 0 (n + 1) c i (i : Int) rfl (by omega) hfit (by omega)
      rw [Nat.zero_add] at c66 c75
      rw [show n + 1 - (i + 1) = n - i by omega] at c66
      have hov : (callFunc 70 #[.slice (some ⟨g', 0, none⟩) 1 1, .slice (some ⟨g, (i + 1) * 4, none⟩) (n - i) (c - (i + 1))]).run Try.prog w = .ok (.value (.bool false)) w := by
        rw [run_callFunc_extern Try.func70 (by kernel_rfl) (by kernel_rfl) (by kernel_rfl) (e := Extern.SlicesOverlaps.overlaps #[27, 27] #[4]) (by kernel_rfl),
          Lib.run_overlaps_apart w 27 4 26 Try.underlying27 4 sizeT ⟨g', 0, none⟩ ⟨g, (i + 1) * 4, none⟩ 1 1 (n - i) (c - (i + 1)) (Ne.symm hgne) 26 26 ec.size cur.size (by unfold World.shape?; rw [hv]) (by unfold World.shape?; rw [hblk]) (by omega) (hv.frozen 0) (hv.frozen _)]
        rfl
      have hcp1 : ∀ ty, (Builtin.copy_ #[27, 27] ty #[.slice (some ⟨g, (i + 1) * 4, none⟩) (n - i) (c - (i + 1)), .slice (some ⟨g, i * 4, none⟩) (n + 1 - i) (c - i)]).run Try.prog w.drew = .ok (goInt (Nat.min (n + 1 - i) (n - i) : Nat)) (w.drew.setRow g (splice cur.toList ((i + 1) * 4) (cs.drop (i * 4))).toArray) := fun ty =>
        run_copy_sz w.drew _ _ ty 26 4 g ((i + 1) * 4) (n - i) _ ⟨g, i * 4, none⟩ (n + 1 - i) _ cur 26 (cs.drop (i * 4)) Try.underlying27 sizeTm hblk (by rw [hdl]; congr 1; simp only [Nat.min_def]; split <;> omega) (fun j v hj => by rw [Addr.add_lit]; exact hsrc j v hj) (by rw [hdl]; omega) h1d
      obtain ⟨cur1, hcur1⟩ : ∃ cur1, (splice cur.toList ((i + 1) * 4) (cs.drop (i * 4))).toArray = cur1 := ⟨_, rfl⟩
      rw [hcur1] at hcp1
      have hc1s : cur1.size = cur.size := by rw [← hcur1]; simp only [List.size_toArray]; rw [length_splice _ _ _ (by rw [hdl, Array.length_toList]; omega), Array.length_toList]
      obtain ⟨W1, hW1⟩ : ∃ W1, w.drew.setRow g cur1 = W1 := ⟨_, rfl⟩
      rw [hW1] at hcp1
      have hb1 : Blk W1 g 26 cur1 := by rw [← hW1]; exact Blk.row (w := w.drew) hblk cur1
      have hcp2 : ∀ ty, (Builtin.copy_ #[27, 27] ty #[.slice (some ⟨g, i * 4, none⟩) (n + 1 - i) (c - i), .slice (some ⟨g', 0, none⟩) 1 1]).run Try.prog W1 = .ok (goInt (Nat.min 1 (n + 1 - i) : Nat)) (W1.setRow g (splice cur1.toList (i * 4) ec.toList).toArray) := fun ty =>
        run_copy_sz W1 _ _ ty 26 4 g (i * 4) (n + 1 - i) _ ⟨g', 0, none⟩ 1 _ cur1 26 ec.toList Try.underlying27 sizeTm hb1 (by rw [Array.length_toList, hvl]; simp only [Nat.min_def]; split <;> omega) (fun j v hj => by rw [Addr.add_lit, Nat.zero_add, ← hW1, cell_setRow_other _ _ _ _ (by exact Ne.symm hgne)]; exact hv.cell (by rw [← hj]; simp)) (by rw [Array.length_toList, hvl, hc1s]; omega) h1v
      obtain ⟨cur2, hcur2⟩ : ∃ cur2, (splice cur1.toList (i * 4) ec.toList).toArray = cur2 := ⟨_, rfl⟩
      rw [hcur2] at hcp2
      have hfin : (W1.setRow g cur2).ownsRow B 26 4 (.slice (some ⟨g, 0, none⟩) (n + 1) c) (n + 1) (cs.take (i * 4) ++ ec.toList ++ cs.drop (i * 4)) := by
        refine own_of_block (Blk.row hb1 cur2) hBg hfit hcm ?_ ?_
        · rw [← hcur2]; simp only [List.size_toArray]
          rw [length_splice _ _ _ (by rw [Array.length_toList, Array.length_toList, hvl, hc1s]; omega), Array.length_toList, hc1s, hcs]
        · rw [← hcur2, ← hcur1]
          simp only [List.toList_toArray]
          have := splice_two (L := cur.toList) (D := cs.drop (i * 4)) (E := ec.toList) (k := i * 4) (e := 4) (d := (n - i) * 4) (by rw [Array.length_toList, hvl]) hdl (by rw [Array.length_toList]; omega)
          rw [show i * 4 + 4 = (i + 1) * 4 by omega, show (i + 1) * 4 + (n - i) * 4 = (n + 1) * 4 by omega] at this
          rw [this]
          congr 2
          rw [← htk, List.take_take, Nat.min_eq_left (by omega)]
      have hgr : w.grownBy (W1.setRow g cur2) (some g) := by rw [← hW1]; exact grown_setRow (grown_setRow (grown_drew (World.grownBy.refl _ _)) _) _
      have hown' := Lib.hid hown
      have hS' := Lib.hid hS
      have hcl' := Lib.hid hcl
      have hv' := Lib.hid hv
      have hne' := Lib.hid hne
      have h1c' := Lib.hid h1c
      have hblk' := Lib.hid hblk
      have hcs' := Lib.hid hcs
      have htk' := Lib.hid htk
      have hsrc' := Lib.hid hsrc
      have h1d' := Lib.hid h1d
      have hdl' := Lib.hid hdl
      have hcur1' := Lib.hid hcur1
      have hc1s' := Lib.hid hc1s
      have hb1' := Lib.hid hb1
      have hcur2' := Lib.hid hcur2
      have hfin' := Lib.hid hfin
      have hgr' := Lib.hid hgr
      have h1v' := Lib.hid h1v
      clear hown hS hcl hv hne h1c hblk hcs htk hsrc h1d hdl hcur1 hc1s hb1 hcur2 hfin hgr h1v
      clear hvS hn4 hci
      go_enter Try.func45, Try.ntmps45
      go_wp2_with (simp only [hov])
      go_region_law (refine step_copy_run rfl (.tmp 73) (.tmp 76) 27 27 rfl _ _ (by simp [Act.eval, Act.put]) (by simp [Act.eval, Act.put]) (hcp1 _) ?_)
      go_wp2_with (refine wpList_copy_run _ rfl (.tmp 80) (.tmp 81) 27 27 rfl _ _ rfl rfl (hcp2 _) ?_)
      go_ret
      exact ⟨_, _, rfl, hfin'.out, hgr'.out⟩
    · have d2 : decide ((c : Int) < (n : Int) + 1) = true := by simp; omega
      have d2' : decide (c < n + 1) = true := by simp; omega
      have c34 := slice_h_at (P := Try.prog) Try.underlying27 sizeT g 0 n c i (i : Int) rfl (by omega)
      have c53 := slice_l_at (P := Try.prog) Try.underlying27 sizeT g 0 n c i (i : Int) rfl (by omega) hle (by omega)
      rw [Nat.zero_add] at c53
      have hti : (cs.take (i * 4)).length = i * 4 := by rw [List.length_take, hcl]; omega
      have hold : (Builtin.firstCells i0.size i (.slice (some ⟨g, 0, none⟩) i c)).run Try.prog w.drew = .ok (cs.take (i * 4)).toArray w.drew := run_firstCells_some (P := Try.prog) w.drew i0.size i ⟨g, 0, none⟩ i c (cs.take (i * 4)) (by rw [hti, hz1]) (fun j v hj => by
        rw [Addr.add_lit, Nat.zero_add]
        rw [List.getElem?_take] at hj
        split at hj
        · rw [← htk, List.getElem?_take] at hj
          split at hj
          · exact (hblk.cell (i := j) (by rw [← hj]; simp) : w.cell? _ = _)
          · cases hj
        · cases hj)
      have hap := Lib.run_append_grow_zeros (P := Try.prog) w 27 3 27 26 i0 z0 .i64 .i64 Try.underlying27 Try.underlying3 hi0 hz (some ⟨g, 0, none⟩) i c (cs.take (i * 4)) hold (n + 1 - i) (by omega) (by omega) (by omega) (by omega) (by rw [hz2]; omega) (by rw [hz2]; exact growslice_fits (by omega) (by omega))
      rw [show i + (n + 1 - i) = n + 1 by omega] at hap
      have hkc : ((n + 1 - i : Nat) : Int) = (n : Int) + 1 - i := by omega
      rw [hkc] at hap
      obtain ⟨cp, hcp⟩ : ∃ cp, grownCap w (n + 1) c 26 = cp := ⟨_, rfl⟩
      have hge := grownCap_ge w (n + 1) c 26
      have hlem := grownCap_le_maxLen w (n + 1) c 26 (by unfold maxLen; omega)
      rw [hcp] at hap hge hlem
      obtain ⟨CU, hCU⟩ : ∃ CU, (cs.take (i * 4)).toArray ++ Builtin.zeroCells z0.cells (n + 1 - i) ++ Builtin.zeroCells z0.cells (cp - (n + 1)) = CU := ⟨_, rfl⟩
      rw [hCU] at hap
      have hCUs : CU.size = cp * 4 := by
        rw [← hCU]
        simp only [Array.size_append, List.size_toArray, size_zeroCells, hti, hz3]
        omega
      have hCUt : CU.toList.take (i * 4) = cs.take (i * 4) := by
        rw [← hCU]
        simp only [Array.toList_append, List.toList_toArray, List.append_assoc]
        rw [List.take_append_of_le_length (by rw [hti]; exact Nat.le_refl _), List.take_of_length_le (by rw [hti]; exact Nat.le_refl _)]
      obtain ⟨N, hN⟩ : ∃ N, w.heap.size = N := ⟨_, rfl⟩
      obtain ⟨W1, hW1⟩ : ∃ W1, w.drew.alloc (.cells CU 26) = W1 := ⟨_, rfl⟩
      have hgN : g ≠ N := by have := hblk.lt; omega
      have hg'N : g' ≠ N := by have := hv.lt; omega
      have hb1 : Blk W1 N 26 CU := by rw [← hW1, ← hN]; exact heap_new w.drew _
      have hbg1 : Blk W1 g 26 cur := by rw [← hW1]; exact (heap_old w.drew _ hblk.lt).trans hblk
      have hbv1 : Blk W1 g' 26 ec := by rw [← hW1]; exact (heap_old w.drew _ hv.lt).trans hv
      rw [hN, hW1] at hap
      have c43 := slice_l_at (P := Try.prog) Try.underlying27 sizeT N 0 (n + 1) cp i (i : Int) rfl (by omega) hge (by omega)
      have c50 := slice_l_at (P := Try.prog) Try.underlying27 sizeT N 0 (n + 1) cp (i + 1) ((i : Int) + 1) (by omega) (by omega) hge (by omega)
      rw [Nat.zero_add] at c43 c50
      rw [show n + 1 - (i + 1) = n - i by omega] at c50
      have hcp1 : ∀ ty, (Builtin.copy_ #[27, 27] ty #[.slice (some ⟨N, i * 4, none⟩) (n + 1 - i) (cp - i), .slice (some ⟨g', 0, none⟩) 1 1]).run Try.prog W1 = .ok (goInt (Nat.min 1 (n + 1 - i) : Nat)) (W1.setRow N (splice CU.toList (i * 4) ec.toList).toArray) := fun ty =>
        run_copy_sz W1 _ _ ty 26 4 N (i * 4) (n + 1 - i) _ ⟨g', 0, none⟩ 1 _ CU 26 ec.toList Try.underlying27 sizeTm hb1 (by rw [Array.length_toList, hvl]; simp only [Nat.min_def]; split <;> omega) (fun j v hj => by rw [Addr.add_lit, Nat.zero_add]; exact hbv1.cell (by rw [← hj]; simp)) (by rw [Array.length_toList, hvl, hCUs]; omega) h1v
      obtain ⟨cur1, hcur1⟩ : ∃ cur1, (splice CU.toList (i * 4) ec.toList).toArray = cur1 := ⟨_, rfl⟩
      rw [hcur1] at hcp1
      have hc1s : cur1.size = cp * 4 := by rw [← hcur1]; simp only [List.size_toArray]; rw [length_splice _ _ _ (by rw [Array.length_toList, Array.length_toList, hvl, hCUs]; omega), Array.length_toList, hCUs]
      obtain ⟨W2, hW2⟩ : ∃ W2, W1.setRow N cur1 = W2 := ⟨_, rfl⟩
      rw [hW2] at hcp1
      have hb2 : Blk W2 N 26 cur1 := by rw [← hW2]; exact Blk.row hb1 cur1
      have hbg2 : Blk W2 g 26 cur := by rw [← hW2]; exact (setRow_other _ _ _ _ hgN).trans hbg1
      have hcp2 : ∀ ty, (Builtin.copy_ #[27, 27] ty #[.slice (some ⟨N, (i + 1) * 4, none⟩) (n - i) (cp - (i + 1)), .slice (some ⟨g, i * 4, none⟩) (n - i) (c - i)]).run Try.prog W2.drew = .ok (goInt (Nat.min (n - i) (n - i) : Nat)) (W2.drew.setRow N (splice cur1.toList ((i + 1) * 4) (cs.drop (i * 4))).toArray) := fun ty =>
        run_copy_sz W2.drew _ _ ty 26 4 N ((i + 1) * 4) (n - i) _ ⟨g, i * 4, none⟩ (n - i) _ cur1 26 (cs.drop (i * 4)) Try.underlying27 sizeTm hb2 (by rw [hdl]; congr 1; simp only [Nat.min_def]; split <;> omega) (fun j v hj => by
          rw [Addr.add_lit]
          have hj2 := hj
          rw [List.getElem?_drop, ← htk, List.getElem?_take] at hj2
          split at hj2
          · exact (hbg2.cell (i := i * 4 + j) (by rw [← hj2]; simp) : W2.cell? _ = _)
          · cases hj2) (by rw [hdl, hc1s]; omega) h1d
      obtain ⟨cur2, hcur2⟩ : ∃ cur2, (splice cur1.toList ((i + 1) * 4) (cs.drop (i * 4))).toArray = cur2 := ⟨_, rfl⟩
      rw [hcur2] at hcp2
      have hfin : (W2.drew.setRow N cur2).ownsRow B 26 4 (.slice (some ⟨N, 0, none⟩) (n + 1) cp) (n + 1) (cs.take (i * 4) ++ ec.toList ++ cs.drop (i * 4)) := by
        refine own_of_block (Blk.row (w := W2.drew) hb2 cur2) (by omega) hge hlem ?_ ?_
        · rw [← hcur2]; simp only [List.size_toArray]
          rw [length_splice _ _ _ (by rw [hdl, Array.length_toList, hc1s]; omega), Array.length_toList, hc1s]
        · rw [← hcur2, ← hcur1]
          simp only [List.toList_toArray]
          have := splice_two' (L := CU.toList) (D := cs.drop (i * 4)) (E := ec.toList) (k := i * 4) (e := 4) (d := (n - i) * 4) (by rw [Array.length_toList, hvl]) hdl (by rw [Array.length_toList, hCUs]; omega)
          rw [show i * 4 + 4 = (i + 1) * 4 by omega, show (i + 1) * 4 + (n - i) * 4 = (n + 1) * 4 by omega] at this
          rw [this, hCUt]
      have hgr : w.grownBy (W2.drew.setRow N cur2) (some g) := by
        rw [← hW2, ← hW1]
        exact grown_new (grown_drew (grown_new (grown_alloc (grown_drew (World.grownBy.refl _ _)) _) (by omega) _)) (by omega) _
      have hown' := Lib.hid hown
      have hS' := Lib.hid hS
      have hcl' := Lib.hid hcl
      have hv' := Lib.hid hv
      have hne' := Lib.hid hne
      have h1c' := Lib.hid h1c
      have hblk' := Lib.hid hblk
      have hcs' := Lib.hid hcs
      have htk' := Lib.hid htk
      have hsrc' := Lib.hid hsrc
      have h1d' := Lib.hid h1d
      have hdl' := Lib.hid hdl
      have hcur1' := Lib.hid hcur1
      have hc1s' := Lib.hid hc1s
      have hb1' := Lib.hid hb1
      have hcur2' := Lib.hid hcur2
      have hfin' := Lib.hid hfin
      have hgr' := Lib.hid hgr
      have h1v' := Lib.hid h1v
      have hN' := Lib.hid hN
      have hb2' := Lib.hid hb2
      have hbg2' := Lib.hid hbg2
      have hbg1' := Lib.hid hbg1
      have hbv1' := Lib.hid hbv1
      have hW1' := Lib.hid hW1
      have hW2' := Lib.hid hW2
      have hCU' := Lib.hid hCU
      have hCUs' := Lib.hid hCUs
      have hCUt' := Lib.hid hCUt
      have hold' := Lib.hid hold
      have hti' := Lib.hid hti
      have hcp' := Lib.hid hcp
      have hkc' := Lib.hid hkc
      clear hown hS hcl hv hne h1c hblk hcs htk hsrc h1d hdl hcur1 hc1s hb1 hcur2 hfin hgr h1v hN hb2 hbg2 hbg1 hbv1 hW1 hW2 hCU hCUs hCUt hold hti hcp hkc
      clear hvS hn4 cut1
      go_enter Try.func45, Try.ntmps45
      go_wp2_with (first | (refine Lib.wpList_append_run w rfl (.tmp 34) (.tmp 39) 27 3 rfl _ _ rfl rfl _ _ hap ?_) | (refine wpList_copy_run _ rfl (.tmp 43) (.tmp 44) 27 27 rfl _ _ rfl rfl (hcp1 _) ?_))
      go_region_law (refine step_copy_run rfl (.tmp 50) (.tmp 53) 27 27 rfl _ _ (by simp [Act.eval, Act.put]) (by simp [Act.eval, Act.put]) (hcp2 _) ?_)
      go_wp2_with fail
      go_ret
      exact ⟨_, _, rfl, hfin'.out, hgr'.out⟩
end Go.Proofs.Ytnhcmibngcmebaa
