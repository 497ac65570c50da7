/- slices.Delete of one tag out of a row that the call owns. -/
import Derived.Test.YtnhcmibngcmebaaIn1
import Derived.Test.YtnhcmibngcmebaaCp2
namespace Go.Proofs.Ytnhcmibngcmebaa
open Go.RowKit Tt
set_option linter.unusedVariables false
set_option linter.unusedSimpArgs false

theorem zeroT : ∀ w, (zeroValue 26).run Try.prog w = .ok (.agg #[.int .i64 0, .int .i64 0, .int .i64 0, .slice none 0 0]) w := fun w => by kernel_rfl
theorem zeroT1 : (Builtin.zeroCells (Value.agg #[.int .i64 0, .int .i64 0, .int .i64 0, .slice none 0 0]).cells 1).toList = [.int .i64 0, .int .i64 0, .int .i64 0, .slice none 0 0] := by kernel_rfl

set_option maxRecDepth 100000 in
set_option maxHeartbeats 4000000 in
theorem delete_any (B : Nat) (a : Option Addr) (n c : Nat) (cs : List Value) (i : Nat) (i' : Int) (w : World) (hown : w.ownsRow B 26 4 (.slice a n c) n cs) (hi : i < n) (hi' : i' = (i : Int) + 1) (h1c : ∀ v ∈ cs, v.oneCell' = true) (hl : n ≤ 1000000) :
    Calls Try.prog 46 #[.slice a n c, .int .i64 i, .int .i64 i'] w fun e w' => ∃ a' c', e = .returned (.slice a' (n - 1) c') ∧
      w'.ownsRow B 26 4 (.slice a' (n - 1) c') (n - 1) (cs.take (i * 4) ++ cs.drop ((i + 1) * 4)) ∧ w.grownBy w' (Value.slice a n c).ownBlock := by
  obtain ⟨i0, z0, hi0, hz, hz1, hz2, hz3⟩ := infoT_parts
  have hcl := (Sl.of_own hown).1.len
  obtain ⟨g, cur, rfl, hBg, hblk, hle, hcm, hcs, htk, _⟩ := own_block hown (by omega)
  have hmx : c ≤ 9223372036854775807 := by unfold maxLen at hcm; omega
  obtain ⟨v1, c13⟩ := slice_lhm_ok (P := Try.prog) Try.underlying27 sizeT (some ⟨g, 0, none⟩) n c i (i + 1) n (i : Int) i' (n : Int) rfl (by omega) rfl (by omega) (by omega) hle
  have c22 := slice_h_at (P := Try.prog) Try.underlying27 sizeT g 0 n c i (i : Int) rfl (by omega)
  have hn4 : n * 4 ≤ cur.size := by rw [hcs]; exact Nat.mul_le_mul_right _ hle
  have hdl : (cs.drop ((i + 1) * 4)).length = (n - (i + 1)) * 4 := by rw [List.length_drop, hcl, Nat.sub_mul]
  have h1d : ∀ v ∈ cs.drop ((i + 1) * 4), v.oneCell' = true := fun v hv => h1c v (List.mem_of_mem_drop hv)
  have hsrc : ∀ j v, (cs.drop ((i + 1) * 4))[j]? = some v → w.cell? ⟨g, (i + 1) * 4 + j, none⟩ = some v := fun j v hj => by
    rw [List.getElem?_drop, ← htk, List.getElem?_take] at hj
    split at hj
    · exact hblk.cell (by rw [← hj]; simp)
    · cases hj
  have hcut : ∃ p, (∀ W, (Instr.sliceAt 27 (.slice (some ⟨g, 0, none⟩) n c) (some (.int .i64 i')) none none).run Try.prog W = .ok (.slice (some ⟨g, p, none⟩) (n - (i + 1)) (c - (i + 1))) W) ∧ ∀ j v, (cs.drop ((i + 1) * 4))[j]? = some v → w.cell? ⟨g, p + j, none⟩ = some v := by
    by_cases hc : i + 1 < c
    · refine ⟨(i + 1) * 4, ?_, hsrc⟩
      have := slice_l_at (P := Try.prog) Try.underlying27 sizeT g 0 n c (i + 1) i' (by omega) (by omega) hle hc
      rwa [Nat.zero_add] at this
    · obtain rfl : c = i + 1 := by omega
      obtain rfl : n = i + 1 := by omega
      refine ⟨0, ?_, fun j v hj => ?_⟩
      · have := slice_l_end (P := Try.prog) Try.underlying27 sizeT g 0 (i + 1) i' (by omega)
        rw [Nat.sub_self]
        exact this
      · have h0 := (List.getElem?_eq_some_iff.1 hj).1
        rw [hdl, Nat.sub_self] at h0
        omega
  obtain ⟨p, c25, hsrc2⟩ := hcut
  have hap : ∀ ty, (Builtin.append_ #[27, 27] ty #[.slice (some ⟨g, 0, none⟩) i c, .slice (some ⟨g, p, none⟩) (n - (i + 1)) (c - (i + 1))]).run Try.prog w.drew = .ok (.slice (some ⟨g, 0, none⟩) (n - 1) c) (w.drew.setRow g (splice cur.toList (i * 4) (cs.drop ((i + 1) * 4))).toArray) := fun ty => by
    have h := run_append_room (P := Try.prog) (w := w.drew) 27 ty 26 i0 Try.underlying27 hi0 g i c cur hblk ⟨g, p, none⟩ (n - (i + 1)) (c - (i + 1)) (cs.drop ((i + 1) * 4)) (by rw [hdl, hz1]) (fun j v hj => by rw [Addr.add_lit]; exact hsrc2 j v hj) h1d (by omega) (by rw [hdl, hz1]; omega)
    rw [h, show i + (n - (i + 1)) = n - 1 by omega, hz1]
    unfold splice
    rw [List.append_assoc]
  obtain ⟨cur1, hcur1⟩ : ∃ cur1, (splice cur.toList (i * 4) (cs.drop ((i + 1) * 4))).toArray = cur1 := ⟨_, rfl⟩
  rw [hcur1] at hap
  have hc1s : cur1.size = cur.size := by rw [← hcur1]; simp only [List.size_toArray]; rw [length_splice _ _ _ (by rw [hdl, Array.length_toList]; omega), Array.length_toList]
  obtain ⟨W1, hW1⟩ : ∃ W1, w.drew.setRow g cur1 = W1 := ⟨_, rfl⟩
  rw [hW1] at hap
  have hb1 : Blk W1 g 26 cur1 := by rw [← hW1]; exact Blk.row (w := w.drew) hblk cur1
  have hn1 : ((n - 1 : Nat) : Int) = (n : Int) - 1 := by omega
  have c31 := slice_lh_at (P := Try.prog) Try.underlying27 sizeT g 0 (n - 1) c (n - 1) n ((n - 1 : Nat) : Int) (n : Int) rfl rfl (by omega) hle (by omega)
  rw [Nat.zero_add, show n - (n - 1) = 1 by omega] at c31
  have hclr : ∀ ty, (Builtin.clear_ #[27] ty #[.slice (some ⟨g, (n - 1) * 4, none⟩) 1 (c - (n - 1))]).run Try.prog W1 = .ok (.tuple #[]) (W1.setRow g (splice cur1.toList ((n - 1) * 4) [.int .i64 0, .int .i64 0, .int .i64 0, .slice none 0 0]).toArray) := fun ty =>
    run_clear_row (P := Try.prog) W1 _ _ ty _ Try.underlying27 zeroT g ((n - 1) * 4) 1 _ (by omega) cur1 26 hb1 _ zeroT1 (by intro v hv; simp only [List.mem_cons, List.not_mem_nil, or_false] at hv; rcases hv with rfl | rfl | rfl | rfl <;> rfl) (by rw [hc1s]; simp only [List.length_cons, List.length_nil]; omega)
  obtain ⟨cur2, hcur2⟩ : ∃ cur2, (splice cur1.toList ((n - 1) * 4) [Value.int .i64 0, .int .i64 0, .int .i64 0, .slice none 0 0]).toArray = cur2 := ⟨_, rfl⟩
  rw [hcur2] at hclr
  have hfin : (W1.setRow g cur2).ownsRow B 26 4 (.slice (some ⟨g, 0, none⟩) (n - 1) c) (n - 1) (cs.take (i * 4) ++ cs.drop ((i + 1) * 4)) := by
    refine own_of_block (Blk.row hb1 cur2) hBg (by omega) hcm ?_ ?_
    · rw [← hcur2]; simp only [List.size_toArray]
      have hcl1 : cur1.toList.length = c * 4 := by rw [Array.length_toList, hc1s, hcs]
      rw [length_splice _ _ _ (by rw [hcl1]; simp only [List.length_cons, List.length_nil]; omega), hcl1]
    · rw [← hcur2]
      simp only [List.toList_toArray]
      rw [splice_left (Nat.le_refl _) (by rw [Array.length_toList, hc1s]; omega), ← hcur1]
      simp only [List.toList_toArray]
      rw [splice_take (by rw [hdl]; omega) (by rw [Array.length_toList]; omega), ← htk, List.take_take, Nat.min_eq_left (by omega)]
  have hgr : w.grownBy (W1.setRow g cur2) (some g) := by rw [← hW1]; exact grown_setRow (grown_setRow (grown_drew (World.grownBy.refl _ _)) _) _
  have d1 : ((i : Int) == i') = false := by simp; omega
  have hown' := Lib.hid hown
  have hcl' := Lib.hid hcl
  have hblk' := Lib.hid hblk
  have hcs' := Lib.hid hcs
  have htk' := Lib.hid htk
  have hsrc' := Lib.hid hsrc
  have hsrc2' := Lib.hid hsrc2
  have h1d' := Lib.hid h1d
  have hdl' := Lib.hid hdl
  have hcur1' := Lib.hid hcur1
  have hc1s' := Lib.hid hc1s
  have hb1' := Lib.hid hb1
  have hcur2' := Lib.hid hcur2
  have hfin' := Lib.hid hfin
  have hgr' := Lib.hid hgr
  have h1c' := Lib.hid h1c
  have hW1' := Lib.hid hW1
  have hi'' := Lib.hid hi'
  have hn1' := Lib.hid hn1
  clear hown hcl hblk hcs htk hsrc hsrc2 h1d hdl hcur1 hc1s hb1 hcur2 hfin hgr h1c hW1 hi' hn1
  clear hn4
  go_enter Try.func46, Try.ntmps46
  go_wp2_with fail
  go_region_law (refine step_append_run rfl (.tmp 22) (.tmp 25) 27 rfl _ _ (by simp [Act.eval, Act.put]) (by simp [Act.eval, Act.put]) (hap _) ?_)
  go_wp2_with (refine wpList_clear_run _ rfl (.tmp 31) 27 rfl _ rfl (hclr _) ?_)
  go_ret
  exact ⟨_, _, rfl, hfin'.out, hgr'.out⟩
end Go.Proofs.Ytnhcmibngcmebaa
