/- Chapter 5: the program's To, From. -/
import Derived.Test.YtpjopeojeglogaaCd12
namespace Go.Proofs.Ytpjopeojeglogaa
open Go.RowKit Tt
set_option linter.unusedVariables false
set_option linter.unusedSimpArgs false
theorem zzN_get {n : Nat} (hn : n < 64) : zzN[n]? = some ((zzL.getD n 0 : Nat) : Int) := by
  unfold zzN; rw [List.getElem?_map, List.getD_eq_getElem?_getD, List.getElem?_eq_getElem (show n < zzL.length from hn)]
  rfl
set_option maxRecDepth 20000 in
set_option maxHeartbeats 1000000 in
theorem pto_any (t : List Int) (A : Array Value) (hA : (ints .i64 t).toArray = A) (w : World) (ht : t.length = 64) : Calls Try.prog 156 #[.agg A] w fun e w' => e = .returned (.agg (ints .i64 (toZ t)).toArray) ∧ Below w.heap.size w w' := by
  obtain ⟨R, hR⟩ : ∃ R, (ints .i64 (toZ t)).toArray = R := ⟨_, rfl⟩; rw [hR]; obtain ⟨W1, hW1, bA, bB, bC, hb1, s1⟩ := three_boxes w 129 A 129 z64 129 z64; have b1 : B64 W1 w.heap.size 129 t := ⟨ht, hA ▸ bA⟩; have b2 : B64 W1 (w.heap.size + 1) 129 (List.replicate 64 0) := ⟨by simp, bB⟩; have b3 : B64 W1 (w.heap.size + 2) 129 (gath zzL t 0) := ⟨gath_len _ _ _, by first | (rw [(zeros64 _ _).1]; exact bC) | (rw [(zeros64 _ _).2]; exact bC)⟩; have HO := order_any W1; obtain ⟨Z, hZ⟩ : ∃ Z, (ints .i64 zzN).toArray = Z := ⟨_, rfl⟩; rw [hZ] at HO
  have hix : ∀ (k : Nat), k < 64 → ∀ W, (Instr.index 128 (.agg Z) (.int .i64 k)).run Try.prog W = .ok (.int .i64 ((zzL.getD k 0 : Nat) : Int)) W := fun k h2 W => by
    rw [← hZ]; exact run_index_arr _ _ 64 zzN .i64 k _ Try.underlying128 Try.underlying3 (by kernel_rfl) (zzN_get h2) h2 W
  unfold z64 at hW1; clear bA bB bC; have hA' := Lib.hid hA; have ht' := Lib.hid ht; have hb1' := Lib.hid hb1; have s1' := Lib.hid s1; have b1' := Lib.hid b1; have b2' := Lib.hid b2; have b3' := Lib.hid b3; have hW1' := Lib.hid hW1; have hR' := Lib.hid hR; have hZ' := Lib.hid hZ; have HO' := Lib.hid HO; have hix' := Lib.hid hix; clear hA ht hb1 s1 b1 b2 b3 hW1 hR hZ HO hix
  go_enter Try.func156, Try.ntmps156
  go_upto_region 2 with fail
  rw [hW1'.out]; have e2 : w.heap.size + 1 + 1 = w.heap.size + 2 := rfl; simp only [e2]; clear e2
  go_wp2_with fail
  refine HO'.out.mono ?_; rintro e w2 ⟨rfl, hb2⟩; have d1 := b1'.out.late hb2; have d2 := b2'.out.late hb2; have d3 := b3'.out.late hb2; have d4 := hb1'.out.trans (hb2.mono hb1'.out.size); have d1' := Lib.hid d1; have d2' := Lib.hid d2; have d3' := Lib.hid d3; have d4' := Lib.hid d4; have hb2' := Lib.hid hb2; clear d1 d2 d3 d4 hb2
  go_wp2
  go_loopw [7] (fun iv wr => ∃ k : Nat, k ≤ 64 ∧ iv = .int .i64 k ∧ Hid (B64 wr w.heap.size 129 t) ∧ Hid (B64 wr (w.heap.size + 1) 129 (List.replicate 64 0)) ∧ Hid (B64 wr (w.heap.size + 2) 129 (gath zzL t k)) ∧ Hid (Below w.heap.size w wr)) (fun iv _ => 64 - (intOf iv).toNat)
  case atStart => exact ⟨0, by omega, rfl, d1', d2', d3', d4'⟩
  case round =>
    obtain ⟨k, hk, rfl, h1, h2, h3, hb⟩ := hrel
    by_cases hlt : k < 64
    · obtain ⟨z1, z2, z3, z4⟩ := zz_lt k hlt
      have hik := hix'.out k hlt; have hst := gath_step zzL t hlt
      generalize zzL.getD k 0 = q at *
      have f0 := h1.out.cell z1; obtain ⟨x, hx⟩ : ∃ x, t.getD q 0 = x := ⟨_, rfl⟩; rw [hx] at f0 hst; have f1 := h3.out.cell hlt; have f2 := h3.out.frozen k; have n1 := (h1.out.set_other (g' := w.heap.size + 2) (by omega) k (.int .i64 x)); have n2 := (h2.out.set_other (g' := w.heap.size + 2) (by omega) k (.int .i64 x)); have n3 := h3.out.set k x; rw [hst] at n3; have n4 := hb.out.setCell (p := ⟨w.heap.size + 2, k, none⟩) (by show w.heap.size ≤ w.heap.size + 2; omega) (.int .i64 x)
      generalize (gath zzL t k).getD k 0 = y at f1
      have hst' := Lib.hid hst; have n1' := Lib.hid n1; have n2' := Lib.hid n2; have n3' := Lib.hid n3; have n4' := Lib.hid n4; have z2' := Lib.hid z2; have z3' := Lib.hid z3; have z4' := Lib.hid z4; have hx' := Lib.hid hx; clear hst n1 n2 n3 n4 z2 z3 z4 hx
      go_wp2
      go_roundw
      case rel => exact ⟨k + 1, by omega, by go_num, n1', n2', n3', n4'⟩
      case measure => simp [intOf]; omega
    · have hk64 : k = 64 := by omega
      have h3' := h3.out; rw [hk64] at h3'; rw [gath_toZ] at h3'; have g3 : ∀ j v, (ints .i64 (toZ t))[j]? = some v → wr.cell? ⟨w.heap.size + 2, 0 + j, none⟩ = some v := fun j v hv => h3'.2.cell (by rw [Nat.zero_add, List.getElem?_toArray]; exact hv); have hl3 : (ints .i64 (toZ t)).length = 64 := by rw [ints_len]; exact toZ_len t
      have hz2 := h2.out.2; have hs2 := ints_size h2.out.1; have hsR := ints_size (toZ_len t); have hoR := ints_one' (l := toZ t); rw [hR'.out] at hsR hoR; have hbR := rowBelow hb.out (show w.heap.size ≤ w.heap.size + 1 by omega) R; have hrow : B64 (wr.setRow (w.heap.size + 1) R) (w.heap.size + 1) 129 (toZ t) := ⟨toZ_len t, by rw [hR'.out]; exact setRow_heap _ _ _ _ _ _ hz2⟩; have hret := fun (tmps : Array Value) (hp : tmps.getD 2 undef = .pointer (some ⟨w.heap.size + 1, 0, none⟩)) => ret64 (fn := Try.f156) (p := 2) rfl hp hrow; rw [hR'.out] at hret; have g3' := Lib.hid g3; have hl3' := Lib.hid hl3; have hz2' := Lib.hid hz2; have hs2' := Lib.hid hs2; have hsR' := Lib.hid hsR; have hoR' := Lib.hid hoR; have hbR' := Lib.hid hbR; have hrow' := Lib.hid hrow; have hk64' := Lib.hid hk64; have hret' := Lib.hid hret; clear g3 hl3 hz2 hs2 hsR hoR hbR hrow hk64 hret; clear h3'
      go_wp2_with (first
        | (refine wpList_load_at rfl 129 (.tmp 3) rfl (w.heap.size + 2) 0 rfl (ints .i64 (toZ t)) R hR'.out _ g3'.out Try.underlying129 rfl 64 infoA hl3'.out ?_)
        | (refine wpList_store_row rfl 129 (.tmp 2) (.tmp 17) rfl (w.heap.size + 1) R rfl rfl 129 _ hz2'.out (by rw [hsR'.out]; exact infoA) (by rw [hs2'.out, hsR'.out]) hoR'.out ?_))
      refine bodyPost_ret (hret'.out _ rfl) rfl ⟨rfl, hbR'.out⟩

set_option maxRecDepth 20000 in
set_option maxHeartbeats 1000000 in
theorem pfrom_any (t : List Int) (A : Array Value) (hA : (ints .i64 t).toArray = A) (w : World) (ht : t.length = 64) : Calls Try.prog 167 #[.agg A] w fun e w' => e = .returned (.agg (ints .i64 (frZ t)).toArray) ∧ Below w.heap.size w w' := by
  obtain ⟨R, hR⟩ : ∃ R, (ints .i64 (frZ t)).toArray = R := ⟨_, rfl⟩; rw [hR]; obtain ⟨W1, hW1, bA, bB, bC, hb1, s1⟩ := three_boxes w 129 A 129 z64 129 z64; have b1 : B64 W1 w.heap.size 129 t := ⟨ht, hA ▸ bA⟩; have b2 : B64 W1 (w.heap.size + 1) 129 (List.replicate 64 0) := ⟨by simp, bB⟩; have b3 : B64 W1 (w.heap.size + 2) 129 (scat zzI t 0) := ⟨scat_len _ _ _, by first | (rw [(zeros64 _ _).1]; exact bC) | (rw [(zeros64 _ _).2]; exact bC)⟩; have HO := order_any W1; obtain ⟨Z, hZ⟩ : ∃ Z, (ints .i64 zzN).toArray = Z := ⟨_, rfl⟩; rw [hZ] at HO
  have hix : ∀ (k : Nat), k < 64 → ∀ W, (Instr.index 128 (.agg Z) (.int .i64 k)).run Try.prog W = .ok (.int .i64 ((zzL.getD k 0 : Nat) : Int)) W := fun k h2 W => by
    rw [← hZ]; exact run_index_arr _ _ 64 zzN .i64 k _ Try.underlying128 Try.underlying3 (by kernel_rfl) (zzN_get h2) h2 W
  unfold z64 at hW1; clear bA bB bC; have hA' := Lib.hid hA; have ht' := Lib.hid ht; have hb1' := Lib.hid hb1; have s1' := Lib.hid s1; have b1' := Lib.hid b1; have b2' := Lib.hid b2; have b3' := Lib.hid b3; have hW1' := Lib.hid hW1; have hR' := Lib.hid hR; have hZ' := Lib.hid hZ; have HO' := Lib.hid HO; have hix' := Lib.hid hix; clear hA ht hb1 s1 b1 b2 b3 hW1 hR hZ HO hix
  go_enter Try.func167, Try.ntmps167
  go_upto_region 2 with fail
  rw [hW1'.out]; have e2 : w.heap.size + 1 + 1 = w.heap.size + 2 := rfl; simp only [e2]; clear e2
  go_wp2_with fail
  refine HO'.out.mono ?_; rintro e w2 ⟨rfl, hb2⟩; have d1 := b1'.out.late hb2; have d2 := b2'.out.late hb2; have d3 := b3'.out.late hb2; have d4 := hb1'.out.trans (hb2.mono hb1'.out.size); have d1' := Lib.hid d1; have d2' := Lib.hid d2; have d3' := Lib.hid d3; have d4' := Lib.hid d4; have hb2' := Lib.hid hb2; clear d1 d2 d3 d4 hb2
  go_wp2
  go_loopw [7] (fun iv wr => ∃ k : Nat, k ≤ 64 ∧ iv = .int .i64 k ∧ Hid (B64 wr w.heap.size 129 t) ∧ Hid (B64 wr (w.heap.size + 1) 129 (List.replicate 64 0)) ∧ Hid (B64 wr (w.heap.size + 2) 129 (scat zzI t k)) ∧ Hid (Below w.heap.size w wr)) (fun iv _ => 64 - (intOf iv).toNat)
  case atStart => exact ⟨0, by omega, rfl, d1', d2', d3', d4'⟩
  case round =>
    obtain ⟨k, hk, rfl, h1, h2, h3, hb⟩ := hrel
    by_cases hlt : k < 64
    · obtain ⟨z1, z2, z3, z4⟩ := zz_lt k hlt
      have hik := hix'.out k hlt; have hst := scat_step zzI zzL t hlt z1 z3 (fun i hi => (zz_lt i hi).2.2.2)
      generalize zzL.getD k 0 = q at *
      have f0 := h1.out.cell hlt; obtain ⟨x, hx⟩ : ∃ x, t.getD k 0 = x := ⟨_, rfl⟩; rw [hx] at f0 hst; have f1 := h3.out.cell z1; have f2 := h3.out.frozen q; have n1 := (h1.out.set_other (g' := w.heap.size + 2) (by omega) q (.int .i64 x)); have n2 := (h2.out.set_other (g' := w.heap.size + 2) (by omega) q (.int .i64 x)); have n3 := h3.out.set q x; rw [hst] at n3; have n4 := hb.out.setCell (p := ⟨w.heap.size + 2, q, none⟩) (by show w.heap.size ≤ w.heap.size + 2; omega) (.int .i64 x)
      generalize (scat zzI t k).getD q 0 = y at f1
      have hst' := Lib.hid hst; have n1' := Lib.hid n1; have n2' := Lib.hid n2; have n3' := Lib.hid n3; have n4' := Lib.hid n4; have z2' := Lib.hid z2; have z3' := Lib.hid z3; have z4' := Lib.hid z4; have hx' := Lib.hid hx; clear hst n1 n2 n3 n4 z2 z3 z4 hx
      go_wp2
      go_roundw
      case rel => exact ⟨k + 1, by omega, by go_num, n1', n2', n3', n4'⟩
      case measure => simp [intOf]; omega
    · have hk64 : k = 64 := by omega
      have h3' := h3.out; rw [hk64] at h3'; rw [scat_frZ] at h3'; have g3 : ∀ j v, (ints .i64 (frZ t))[j]? = some v → wr.cell? ⟨w.heap.size + 2, 0 + j, none⟩ = some v := fun j v hv => h3'.2.cell (by rw [Nat.zero_add, List.getElem?_toArray]; exact hv); have hl3 : (ints .i64 (frZ t)).length = 64 := by rw [ints_len]; exact frZ_len t
      have hz2 := h2.out.2; have hs2 := ints_size h2.out.1; have hsR := ints_size (frZ_len t); have hoR := ints_one' (l := frZ t); rw [hR'.out] at hsR hoR; have hbR := rowBelow hb.out (show w.heap.size ≤ w.heap.size + 1 by omega) R; have hrow : B64 (wr.setRow (w.heap.size + 1) R) (w.heap.size + 1) 129 (frZ t) := ⟨frZ_len t, by rw [hR'.out]; exact setRow_heap _ _ _ _ _ _ hz2⟩; have hret := fun (tmps : Array Value) (hp : tmps.getD 2 undef = .pointer (some ⟨w.heap.size + 1, 0, none⟩)) => ret64 (fn := Try.f167) (p := 2) rfl hp hrow; rw [hR'.out] at hret; have g3' := Lib.hid g3; have hl3' := Lib.hid hl3; have hz2' := Lib.hid hz2; have hs2' := Lib.hid hs2; have hsR' := Lib.hid hsR; have hoR' := Lib.hid hoR; have hbR' := Lib.hid hbR; have hrow' := Lib.hid hrow; have hk64' := Lib.hid hk64; have hret' := Lib.hid hret; clear g3 hl3 hz2 hs2 hsR hoR hbR hrow hk64 hret; clear h3'
      go_wp2_with (first
        | (refine wpList_load_at rfl 129 (.tmp 3) rfl (w.heap.size + 2) 0 rfl (ints .i64 (frZ t)) R hR'.out _ g3'.out Try.underlying129 rfl 64 infoA hl3'.out ?_)
        | (refine wpList_store_row rfl 129 (.tmp 2) (.tmp 17) rfl (w.heap.size + 1) R rfl rfl 129 _ hz2'.out (by rw [hsR'.out]; exact infoA) (by rw [hs2'.out, hsR'.out]) hoR'.out ?_))
      refine bodyPost_ret (hret'.out _ rfl) rfl ⟨rfl, hbR'.out⟩

end Go.Proofs.Ytpjopeojeglogaa
