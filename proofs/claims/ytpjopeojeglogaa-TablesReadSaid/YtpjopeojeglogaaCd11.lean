/- Chapter 5: the document's To, From. -/
import Derived.ArgAppend
import Derived.Test.YtpjopeojeglogaaCd10
import Derived.Test.YtpjopeojeglogaaCd02
namespace Go.Proofs.Ytpjopeojeglogaa
open Go.RowKit Tt
set_option linter.unusedVariables false
set_option linter.unusedSimpArgs false
def z64 : Array Value := #[.int .i64 0, .int .i64 0, .int .i64 0, .int .i64 0, .int .i64 0, .int .i64 0, .int .i64 0, .int .i64 0, .int .i64 0, .int .i64 0, .int .i64 0, .int .i64 0, .int .i64 0, .int .i64 0, .int .i64 0, .int .i64 0, .int .i64 0, .int .i64 0, .int .i64 0, .int .i64 0, .int .i64 0, .int .i64 0, .int .i64 0, .int .i64 0, .int .i64 0, .int .i64 0, .int .i64 0, .int .i64 0, .int .i64 0, .int .i64 0, .int .i64 0, .int .i64 0, .int .i64 0, .int .i64 0, .int .i64 0, .int .i64 0, .int .i64 0, .int .i64 0, .int .i64 0, .int .i64 0, .int .i64 0, .int .i64 0, .int .i64 0, .int .i64 0, .int .i64 0, .int .i64 0, .int .i64 0, .int .i64 0, .int .i64 0, .int .i64 0, .int .i64 0, .int .i64 0, .int .i64 0, .int .i64 0, .int .i64 0, .int .i64 0, .int .i64 0, .int .i64 0, .int .i64 0, .int .i64 0, .int .i64 0, .int .i64 0, .int .i64 0, .int .i64 0]
/-- a block of 64 numbers -/
def B64 (w : World) (g : Nat) (T : TypeId) (l : List Int) : Prop := l.length = 64 ∧ Blk w g T (ints .i64 l).toArray
theorem B64.cell {w : World} {g : Nat} {T : TypeId} {l : List Int} (h : B64 w g T l) {i : Nat} (hi : i < 64) : w.cell? ⟨g, i, none⟩ = some (.int .i64 (l.getD i 0)) := h.2.cell (by
  simp only [List.getElem?_toArray]; exact ints_get (by rw [h.1]; exact hi))
theorem B64.frozen {w : World} {g : Nat} {T : TypeId} {l : List Int} (h : B64 w g T l) (i : Nat) : w.frozen? ⟨g, i, none⟩ = false := h.2.frozen i
theorem B64.set {w : World} {g : Nat} {T : TypeId} {l : List Int} (h : B64 w g T l) (i : Nat) (x : Int) : B64 (w.setCell ⟨g, i, none⟩ (.int .i64 x)) g T (l.set i x) := by
  refine ⟨by rw [List.length_set]; exact h.1, ?_⟩; have := h.2.set i (.int .i64 x); rw [List.setIfInBounds_toArray] at this; unfold ints at this ⊢; rw [List.map_set]; exact this
theorem B64.set_other {w : World} {g g' : Nat} {T : TypeId} {l : List Int} (h : B64 w g T l) (hne : g ≠ g') (i : Nat) (v : Value) : B64 (w.setCell ⟨g', i, none⟩ v) g T l := ⟨h.1, h.2.set_other hne i v⟩
theorem B64.late {w w' : World} {g : Nat} {T : TypeId} {l : List Int} (h : B64 w g T l) (hb : Below w.heap.size w w') : B64 w' g T l := ⟨h.1, h.2.late hb⟩
theorem infoA : (Try.prog.info? 129).map (·.size) = some 64 := by kernel_rfl
theorem ints_one' {l : List Int} : (ints .i64 l).toArray.all (·.oneCell') = true := by
  rw [Array.all_eq_true_iff_forall_mem]; intro x hx; exact ints_one x (by simpa using hx)
theorem ints_size {l : List Int} (h : l.length = 64) : (ints .i64 l).toArray.size = 64 := by simp [ints, h]
/-- the result, handed back out of its cell -/
theorem ret64 {fn : Func} {p : Tmp} (h : fn.results = #[.cell p 129]) {tmps : Array Value} {w : World} {g : Nat} {l : List Int} (hp : tmps.getD p undef = .pointer (some ⟨g, 0, none⟩)) (hb : B64 w g 129 l) :
    (results fn tmps).run Try.prog w = .ok (.agg (ints .i64 l).toArray) w :=
  results_cell_row h tmps w g _ _ (0, 0) _ hp hb.2 Try.underlying129 rfl (by rw [ints_size hb.1]; exact infoA)
set_option maxRecDepth 20000 in
set_option maxHeartbeats 1000000 in
theorem rto_any (t : List Int) (A : Array Value) (hA : (ints .i64 t).toArray = A) (w : World) (ht : t.length = 64) : Calls Try.prog 114 #[.agg A] w fun e w' => e = .returned (.agg (ints .i64 (toZ t)).toArray) ∧ Below w.heap.size w w' := by
  obtain ⟨R, hR⟩ : ∃ R, (ints .i64 (toZ t)).toArray = R := ⟨_, rfl⟩; rw [hR]; obtain ⟨W1, hW1, bA, bB, bC, hb1, s1⟩ := three_boxes w 129 A 129 z64 129 z64; have b1 : B64 W1 w.heap.size 129 t := ⟨ht, hA ▸ bA⟩; have b2 : B64 W1 (w.heap.size + 1) 129 (List.replicate 64 0) := ⟨by simp, bB⟩; have b3 : B64 W1 (w.heap.size + 2) 129 (scat zzL t 0) := ⟨scat_len _ _ _, by rw [(zeros64 _ _).2]; exact bC⟩; unfold z64 at hW1; clear bA bB bC; have hA' := Lib.hid hA; have ht' := Lib.hid ht; have hb1' := Lib.hid hb1; have s1' := Lib.hid s1; have b1' := Lib.hid b1; have b2' := Lib.hid b2; have b3' := Lib.hid b3; have hW1' := Lib.hid hW1; have hR' := Lib.hid hR; clear hA ht hb1 s1 b1 b2 b3 hW1 hR
  go_enter Try.func114, Try.ntmps114
  go_upto_region 2 with fail
  rw [hW1'.out]; have e2 : w.heap.size + 1 + 1 = w.heap.size + 2 := rfl; simp only [e2]; clear e2
  go_wp2
  go_loopw [4] (fun iv wr => ∃ k : Nat, k ≤ 64 ∧ iv = .int .i64 k ∧ Hid (B64 wr w.heap.size 129 t) ∧ Hid (B64 wr (w.heap.size + 1) 129 (List.replicate 64 0)) ∧ Hid (B64 wr (w.heap.size + 2) 129 (scat zzL t k)) ∧ Hid (Below w.heap.size w wr)) (fun iv _ => 64 - (intOf iv).toNat)
  case atStart => exact ⟨0, by omega, rfl, b1', b2', b3', hb1'⟩
  case round =>
    obtain ⟨k, hk, rfl, h1, h2, h3, hb⟩ := hrel
    by_cases hlt : k < 64
    · obtain ⟨z1, z2, z3, z4⟩ := zz_lt k hlt
      have HP := fun W => (rplace_any k W hlt).mono fun e w' (h : _ ∧ _) => (⟨h.1, h.2.symm⟩ : _ ∧ w' = W); have hst := scat_step zzL zzI t hlt z2 z4 (fun i hi => (zz_lt i hi).2.2.1); obtain ⟨wD, hwD, d1, d2, d3, d4⟩ : ∃ wD, wr.drew = wD ∧ B64 wD w.heap.size 129 t ∧ B64 wD (w.heap.size + 1) 129 (List.replicate 64 0) ∧ B64 wD (w.heap.size + 2) 129 (scat zzL t k) ∧ Below w.heap.size w wD := ⟨_, rfl, h1.out, h2.out, h3.out, hb.out.drew⟩; have f0 := d1.cell hlt; obtain ⟨x, hx⟩ : ∃ x, t.getD k 0 = x := ⟨_, rfl⟩; rw [hx] at f0 hst
      generalize zzI.getD k 0 = q at *
      have f1 := d3.cell z2; have f2 := d3.frozen q; have n1 := (d1.set_other (g' := w.heap.size + 2) (by omega) q (.int .i64 x)); have n2 := (d2.set_other (g' := w.heap.size + 2) (by omega) q (.int .i64 x)); have n3 := d3.set q x; rw [hst] at n3; have n4 := d4.setCell (p := ⟨w.heap.size + 2, q, none⟩) (by show w.heap.size ≤ w.heap.size + 2; omega) (.int .i64 x)
      generalize (scat zzL t k).getD q 0 = y at f1
      have f4 := n1.cell hlt; rw [hx] at f4; obtain ⟨Ty, ff, hne, q0, hsurj⟩ := pr_worlds (fun W => W.cell? ⟨w.heap.size, k, none⟩ = some (.int .i64 x)) wD f0; have HS := Lib.hid (hsurj _ f0); have HS2 := Lib.hid (hsurj _ f4); clear f4 d1 d2 d3 d4; have HP' := Lib.hid HP; have hst' := Lib.hid hst; have n1' := Lib.hid n1; have n2' := Lib.hid n2; have n3' := Lib.hid n3; have n4' := Lib.hid n4; have z1' := Lib.hid z1; have z3' := Lib.hid z3; have z4' := Lib.hid z4; have hsurj' := Lib.hid hsurj; have hx' := Lib.hid hx; have hwD' := Lib.hid hwD; clear HP hst n1 n2 n3 n4 z1 z3 z4 hsurj hx hwD
      go_wp2_with fail
      refine held_begin (S := fun W => ∃ s, W = ff s) (by kernel_rfl) 7 rfl ?_; rw [hwD'.out]; refine held_take [0, 2, 3, 4] 3 (by kernel_rfl) (fun d _ _ _ _ h => by cases d <;> exact h) (by kernel_rfl) (by kernel_rfl) (by kernel_rfl) HS.out ?_; simp only [pickL, List.map_cons, List.map_nil, List.getD_cons_succ, List.getD_cons_zero]
      iterate 4 (go_big_quiet_step (fail))
      refine wpQuiet_nil ?_; refine held_one 1 2 (by kernel_rfl) (by kernel_rfl) ?_; simp only [pickL, List.map_cons, List.map_nil, List.getD_cons_succ, List.getD_cons_zero]
      go_wp2_with fail
      refine (HP'.out _).mono ?_; rintro e w3 ⟨rfl, rfl⟩
      go_wp2_with fail
      first | refine Mid.mk ⟨HS.out, ?_⟩ | refine Mid.mk ?_
      refine held_one 5 1 (by kernel_rfl) (by kernel_rfl) ?_; simp only [pickL, List.map_cons, List.map_nil, List.getD_cons_succ, List.getD_cons_zero]
      go_wp2_with fail
      first | refine Mid.mk ⟨HS.out, ?_⟩ | refine Mid.mk ?_
      refine held_one 6 0 (by kernel_rfl) (by kernel_rfl) ?_; simp only [pickL, List.map_cons, List.map_nil, List.getD_cons_succ, List.getD_cons_zero]
      go_wp2_with fail
      first | refine Mid.mk ⟨HS2.out, ?_⟩ | refine Mid.mk ?_
      refine held_last (by kernel_rfl) ?_
      go_wp2_with fail
      go_roundw
      case rel => exact ⟨k + 1, by omega, by go_num, n1', n2', n3', n4'⟩
      case measure => simp [intOf]; omega
    · have hk64 : k = 64 := by omega
      have h3' := h3.out; rw [hk64, scat_toZ] at h3'; have g3 : ∀ j v, (ints .i64 (toZ t))[j]? = some v → wr.cell? ⟨w.heap.size + 2, 0 + j, none⟩ = some v := fun j v hv => h3'.2.cell (by rw [Nat.zero_add, List.getElem?_toArray]; exact hv); have hl3 : (ints .i64 (toZ t)).length = 64 := by rw [ints_len]; exact toZ_len t
      have hz2 := h2.out.2; have hs2 := ints_size h2.out.1; have hsR := ints_size (toZ_len t); have hoR := ints_one' (l := toZ t); rw [hR'.out] at hsR hoR; have hbR := rowBelow hb.out (show w.heap.size ≤ w.heap.size + 1 by omega) R; have hrow : B64 (wr.setRow (w.heap.size + 1) R) (w.heap.size + 1) 129 (toZ t) := ⟨toZ_len t, by rw [hR'.out]; exact setRow_heap _ _ _ _ _ _ hz2⟩; have hret := fun (tmps : Array Value) (hp : tmps.getD 2 undef = .pointer (some ⟨w.heap.size + 1, 0, none⟩)) => ret64 (fn := Try.f114) (p := 2) rfl hp hrow; rw [hR'.out] at hret; have g3' := Lib.hid g3; have hl3' := Lib.hid hl3; have hz2' := Lib.hid hz2; have hs2' := Lib.hid hs2; have hsR' := Lib.hid hsR; have hoR' := Lib.hid hoR; have hbR' := Lib.hid hbR; have hrow' := Lib.hid hrow; have hk64' := Lib.hid hk64; have hret' := Lib.hid hret; clear g3 hl3 hz2 hs2 hsR hoR hbR hrow hk64 hret; clear h3'
      go_wp2_with (first
        | (refine wpList_load_at rfl 129 (.tmp 3) rfl (w.heap.size + 2) 0 rfl (ints .i64 (toZ t)) R hR'.out _ g3'.out Try.underlying129 rfl 64 infoA hl3'.out ?_)
        | (refine wpList_store_row rfl 129 (.tmp 2) (.tmp 15) rfl (w.heap.size + 1) R rfl rfl 129 _ hz2'.out (by rw [hsR'.out]; exact infoA) (by rw [hs2'.out, hsR'.out]) hoR'.out ?_))
      refine bodyPost_ret (hret'.out _ rfl) rfl ⟨rfl, hbR'.out⟩
set_option maxRecDepth 20000 in
set_option maxHeartbeats 1000000 in
theorem rfrom_any (t : List Int) (A : Array Value) (hA : (ints .i64 t).toArray = A) (w : World) (ht : t.length = 64) : Calls Try.prog 127 #[.agg A] w fun e w' => e = .returned (.agg (ints .i64 (frZ t)).toArray) ∧ Below w.heap.size w w' := by
  obtain ⟨R, hR⟩ : ∃ R, (ints .i64 (frZ t)).toArray = R := ⟨_, rfl⟩; rw [hR]; obtain ⟨W1, hW1, bA, bB, bC, hb1, s1⟩ := three_boxes w 129 A 129 z64 129 z64; have b1 : B64 W1 w.heap.size 129 t := ⟨ht, hA ▸ bA⟩; have b2 : B64 W1 (w.heap.size + 1) 129 (List.replicate 64 0) := ⟨by simp, bB⟩; have b3 : B64 W1 (w.heap.size + 2) 129 (gath zzI t 0) := ⟨gath_len _ _ _, by rw [(zeros64 _ _).1]; exact bC⟩; unfold z64 at hW1; clear bA bB bC; have hA' := Lib.hid hA; have ht' := Lib.hid ht; have hb1' := Lib.hid hb1; have s1' := Lib.hid s1; have b1' := Lib.hid b1; have b2' := Lib.hid b2; have b3' := Lib.hid b3; have hW1' := Lib.hid hW1; have hR' := Lib.hid hR; clear hA ht hb1 s1 b1 b2 b3 hW1 hR
  go_enter Try.func127, Try.ntmps127
  go_upto_region 2 with fail
  rw [hW1'.out]; have e2 : w.heap.size + 1 + 1 = w.heap.size + 2 := rfl; simp only [e2]; clear e2
  go_wp2
  go_loopw [4] (fun iv wr => ∃ k : Nat, k ≤ 64 ∧ iv = .int .i64 k ∧ Hid (B64 wr w.heap.size 129 t) ∧ Hid (B64 wr (w.heap.size + 1) 129 (List.replicate 64 0)) ∧ Hid (B64 wr (w.heap.size + 2) 129 (gath zzI t k)) ∧ Hid (Below w.heap.size w wr)) (fun iv _ => 64 - (intOf iv).toNat)
  case atStart => exact ⟨0, by omega, rfl, b1', b2', b3', hb1'⟩
  case round =>
    obtain ⟨k, hk, rfl, h1, h2, h3, hb⟩ := hrel
    by_cases hlt : k < 64
    · obtain ⟨z1, z2, z3, z4⟩ := zz_lt k hlt
      have HP := fun W => rplace_any k W hlt; have hst := gath_step zzI t hlt
      generalize zzI.getD k 0 = q at *
      have f0 := h1.out.cell z2; obtain ⟨x, hx⟩ : ∃ x, t.getD q 0 = x := ⟨_, rfl⟩; rw [hx] at f0 hst; have f1 := h3.out.cell hlt; have f2 := h3.out.frozen k; have n1 := (h1.out.set_other (g' := w.heap.size + 2) (by omega) k (.int .i64 x)); have n2 := (h2.out.set_other (g' := w.heap.size + 2) (by omega) k (.int .i64 x)); have n3 := h3.out.set k x; rw [hst] at n3; have n4 := hb.out.setCell (p := ⟨w.heap.size + 2, k, none⟩) (by show w.heap.size ≤ w.heap.size + 2; omega) (.int .i64 x)
      generalize (gath zzI t k).getD k 0 = y at f1
      have HP' := Lib.hid HP; have hst' := Lib.hid hst; have n1' := Lib.hid n1; have n2' := Lib.hid n2; have n3' := Lib.hid n3; have n4' := Lib.hid n4; have z1' := Lib.hid z1; have z3' := Lib.hid z3; have z4' := Lib.hid z4; have hx' := Lib.hid hx; clear HP hst n1 n2 n3 n4 z1 z3 z4 hx
      go_wp2_with fail
      refine (HP'.out _).mono ?_; rintro e w3 ⟨rfl, rfl⟩
      go_wp2_with fail
      go_roundw
      case rel => exact ⟨k + 1, by omega, by go_num, n1', n2', n3', n4'⟩
      case measure => simp [intOf]; omega
    · have hk64 : k = 64 := by omega
      have h3' := h3.out; rw [hk64, gath_frZ] at h3'; have g3 : ∀ j v, (ints .i64 (frZ t))[j]? = some v → wr.cell? ⟨w.heap.size + 2, 0 + j, none⟩ = some v := fun j v hv => h3'.2.cell (by rw [Nat.zero_add, List.getElem?_toArray]; exact hv); have hl3 : (ints .i64 (frZ t)).length = 64 := by rw [ints_len]; exact frZ_len t
      have hz2 := h2.out.2; have hs2 := ints_size h2.out.1; have hsR := ints_size (frZ_len t); have hoR := ints_one' (l := frZ t); rw [hR'.out] at hsR hoR; have hbR := rowBelow hb.out (show w.heap.size ≤ w.heap.size + 1 by omega) R; have hrow : B64 (wr.setRow (w.heap.size + 1) R) (w.heap.size + 1) 129 (frZ t) := ⟨frZ_len t, by rw [hR'.out]; exact setRow_heap _ _ _ _ _ _ hz2⟩; have hret := fun (tmps : Array Value) (hp : tmps.getD 2 undef = .pointer (some ⟨w.heap.size + 1, 0, none⟩)) => ret64 (fn := Try.f127) (p := 2) rfl hp hrow; rw [hR'.out] at hret; have g3' := Lib.hid g3; have hl3' := Lib.hid hl3; have hz2' := Lib.hid hz2; have hs2' := Lib.hid hs2; have hsR' := Lib.hid hsR; have hoR' := Lib.hid hoR; have hbR' := Lib.hid hbR; have hrow' := Lib.hid hrow; have hk64' := Lib.hid hk64; have hret' := Lib.hid hret; clear g3 hl3 hz2 hs2 hsR hoR hbR hrow hk64 hret; clear h3'
      go_wp2_with (first
        | (refine wpList_load_at rfl 129 (.tmp 3) rfl (w.heap.size + 2) 0 rfl (ints .i64 (frZ t)) R hR'.out _ g3'.out Try.underlying129 rfl 64 infoA hl3'.out ?_)
        | (refine wpList_store_row rfl 129 (.tmp 2) (.tmp 15) rfl (w.heap.size + 1) R rfl rfl 129 _ hz2'.out (by rw [hsR'.out]; exact infoA) (by rw [hs2'.out, hsR'.out]) hoR'.out ?_))
      refine bodyPost_ret (hret'.out _ rfl) rfl ⟨rfl, hbR'.out⟩
end Go.Proofs.Ytpjopeojeglogaa
