/- Chapter 23: values that are made. -/
import Derived.Test.YtnhcmibngcmebaaOnceP
import Derived.Test.YtnhcmibngcmebaaL2
import Derived.Test.YtnhcmibngcmebaaRef01
import Derived.LoopN
namespace Go.Proofs.Ytnhcmibngcmebaa
open Go.RowKit Tt
set_option linter.unusedVariables false

set_option maxRecDepth 20000 in
theorem size_any (k : Int) (w : World) : Calls Try.prog 51 #[.int .i64 k] w fun e w' => e = .returned (.int .i64 (kindS k).1) ∧ Below w.heap.size w w' := by
  have H := Lib.hid (kind_any k)
  generalize kindS k = q at *
  obtain ⟨x, y, z⟩ := q
  have hf : ∀ W, (Instr.field 98 (.agg #[.int .i64 x, .int .i64 y, .int .i64 z]) 0).run Try.prog W = .ok (.int .i64 x) W := fun W => by kernel_rfl
  go_enter Try.func51, Try.ntmps51
  go_wp2_with (go_at_call 75; refine (H.out _).mono ?_; rintro e w1 ⟨rfl, hb1⟩)
  go_ret
  exact ⟨rfl, hb1⟩

set_option maxRecDepth 20000 in
set_option maxHeartbeats 4000000 in
theorem made_any (kind count : Int) (w : World) (hk1 : 1 ≤ kind) (hk2 : kind ≤ 12) (hc1 : 1 ≤ count) (hc2 : count ≤ 101) :
    Calls Try.prog 30 #[.int .i64 kind, .int .i64 count] w fun e w' => ∃ a n c, e = .returned (.agg #[.int .i64 kind, .int .i64 count, .slice a n c]) ∧ Sl w' a n c 1 (ints .u8 (madeB kind count)) ∧ Byt (madeB kind count) ∧ Below w.heap.size w w' := by
  obtain ⟨i0, hi, hz0, hz1, hz2⟩ := info_parts info8
  obtain ⟨s, hs⟩ : ∃ s, (kindS kind).1 = s := ⟨_, rfl⟩
  have hs8 := kindS_size kind
  rw [hs] at hs8
  have hq0 : 0 ≤ count * s := Int.mul_nonneg (by omega) hs8.1
  have hq1 : count * s ≤ 101 * 8 := Int.mul_le_mul hc2 hs8.2 hs8.1 (by omega)
  obtain ⟨L, hL⟩ : ∃ L : Nat, count * s = (L : Int) := ⟨(count * s).toNat, by omega⟩
  have hL8 : L ≤ 808 := by omega
  have hmul : IntKind.i64.wrap (count * s) = (L : Int) := by rw [IntKind.wrap_i64]; omega
  have hmin : min (L : Int) 1000 = (L : Int) := by omega
  have hmax : max 0 (L : Int) = (L : Int) := by omega
  have hmade : madeB kind count = if kind = 2 then List.replicate (L - 1) 97 ++ List.replicate (min L 1) 0 else List.replicate L 0 := by
    unfold madeB
    rw [hs, hL, hmin, hmax]
    rfl
  have Hmade := Lib.hid hmade
  have Hs := Lib.hid hs
  have HL8 := Lib.hid hL8
  have HL := Lib.hid hL
  clear hmade hs hs8 hq0 hq1 hL hc1 hc2 hk1 hk2
  go_enter Try.func30, Try.ntmps30
  obtain ⟨W0, hW0⟩ : ∃ W0, W0 = w.alloc (.cells #[.int .i64 0, .int .i64 0, .slice none 0 0] 24) := ⟨_, rfl⟩
  have B0 : Blk W0 w.heap.size 24 #[.int .i64 0, .int .i64 0, .slice none 0 0] := by rw [hW0]; exact Blk.new _ _ _
  have BW : Below w.heap.size w W0 := by rw [hW0]; exact (Below.refl _ _).alloc (Nat.le_refl _) _
  have B0 := Lib.hid B0
  have BW := Lib.hid BW
  go_upto_region 1 with fail
  rw [← hW0]
  clear hW0
  go_wp2_with (first
    | (go_at_call 51; refine (size_any _ _).mono ?_; rw [Hs.out]; rintro e w1 ⟨rfl, hb1⟩; have Hb1 := Lib.hid hb1; clear hb1)
    | (at_make; refine wpList_make_full w1 rfl _ _ 22 rfl w1.heap.size 5 i0 _ 1 Try.underlying22 hi hz0 hz1 .i64 .i64 _ _ L rfl rfl rfl rfl (by rw [hz2]; have := HL8.out; omega) (by unfold maxLen; have := HL8.out; omega) (Nat.le_refl _) ?_; intro w2 hown hg2; have Hown := Lib.hid hown; have Hg2 := Lib.hid hg2; clear hown hg2))
  have e : (madeCells (Value.int .u8 0).cells (L * 1)).toList = ints .u8 (List.replicate L 0) := by
    rw [Nat.mul_one]
    show (madeCells #[Value.int .u8 0] L).toList = _
    rw [toList_madeCells_one]; simp [ints]
  have R2 : Row w2 w1.heap.size 5 .u8 (List.replicate L 0) := by have h := Hown.out; rw [e] at h; exact Row.of_own h
  have hb2 : Below w1.heap.size w1 w2 := (Below.refl _ _).grown Hg2.out (Nat.le_refl _) (fun k e => by cases e)
  clear e
  obtain ⟨W3, hW3⟩ : ∃ W3, W3 = w2.alloc (.cells #[.int .i64 kind, .int .i64 count, .slice (some ⟨w1.heap.size, 0, none⟩) L L] 24) := ⟨_, rfl⟩
  obtain ⟨g, hg⟩ : ∃ g, g = w2.heap.size := ⟨_, rfl⟩
  obtain ⟨d, hd⟩ : ∃ d, d = w1.heap.size := ⟨_, rfl⟩
  have hlt2 := R2.lt
  have hge1 := Hb1.out.size
  have hlt0 := B0.out.lt
  have V3 : Blk W3 g 24 #[.int .i64 kind, .int .i64 count, .slice (some ⟨d, 0, none⟩) L L] := by rw [hW3, hg, hd]; exact Blk.new _ _ _
  have R3 : Row W3 d 5 .u8 (List.replicate L 0) := by rw [hW3, hd]; exact (heap_old _ _ R2.lt).trans R2
  have hb3 : Below W0.heap.size W0 W3 := by rw [hW3]; exact (Hb1.out.trans (hb2.mono Hb1.out.size)).alloc (by omega) _
  have hdg : d < g := by rw [hd, hg]; exact hlt2
  have h0d : w.heap.size < d := by rw [hd]; omega
  have B3 := Lib.hid (B0.out.late hb3)
  rw [← hW3, ← hg, ← hd]
  have V3 := Lib.hid V3
  have R3 := Lib.hid R3
  have Hb3 := Lib.hid hb3
  have Hdg := Lib.hid hdg
  have H0d := Lib.hid h0d
  have HW3 := Lib.hid (show W0.heap.size ≤ d by rw [hd]; exact hge1)
  clear hW3 hg hd R2 hb2 hb3 Hown Hg2 Hb1 hmul hmin hmax hdg h0d hlt2 hge1 hlt0
  have hend : ∀ (W : World) (l : List Int), Blk W g 24 #[.int .i64 kind, .int .i64 count, .slice (some ⟨d, 0, none⟩) L L] → Row W d 5 .u8 l → l.length = L → Below W0.heap.size W0 W →
      Blk W w.heap.size 24 #[.int .i64 0, .int .i64 0, .slice none 0 0] ∧ Sl (((W.setCell ⟨w.heap.size, 0, none⟩ (.int .i64 kind)).setCell ⟨w.heap.size, 1, none⟩ (.int .i64 count)).setCell ⟨w.heap.size, 2, none⟩ (.slice (some ⟨d, 0, none⟩) L L)) (some ⟨d, 0, none⟩) L L 1 (ints .u8 l) := fun W l hv hr hl hb => by
    have hown := Row.own (B := d) hr hl (Nat.le_refl _) (by have := HL8.out; unfold maxLen; omega)
    exact ⟨B0.out.late hb, (Sl.of_own (own_set3 hown H0d.out _ _ _)).1⟩
  have Hend := Lib.hid hend
  clear hend
  by_cases hk2 : kind = 2
  · have q1 : (kind == 2) = true := by simpa using hk2
    have hm2 : madeB kind count = List.replicate (L - 1) 97 ++ List.replicate (min L 1) 0 := by rw [Hmade.out, if_pos hk2]
    have Hm2 := Lib.hid hm2
    clear hk2 hm2
    go_loopw [6] (fun i wr => ∃ k : Nat, k ≤ L ∧ i = .int .i64 k ∧ Hid (k = 0 ∨ k + 1 ≤ L) ∧ Hid (Blk wr g 24 #[.int .i64 kind, .int .i64 count, .slice (some ⟨d, 0, none⟩) L L]) ∧ Hid (Row wr d 5 .u8 (List.replicate k 97 ++ List.replicate (L - k) 0)) ∧ Hid (Below W0.heap.size W0 wr)) (fun i _ => L - (intOf i).toNat)
    case atStart => exact ⟨0, by omega, rfl, Lib.hid (.inl rfl), V3, Lib.hid (by simpa using R3.out), Hb3⟩
    case round =>
      obtain ⟨k, hkL, rfl, hk1, hv, hr, hb⟩ := hrel
      have hl0 : (List.replicate k (97 : Int) ++ List.replicate (L - k) 0).length = L := by simp; omega
      have y2 : wr.cell? ⟨g, 2, none⟩ = some (.slice (some ⟨d, 0, none⟩) L L) := hv.out.cell rfl
      by_cases hlt : k + 1 < L
      · have q2 : decide ((k : Int) + 1 < (L : Int)) = true := by simp; omega
        have c1 := hr.out.cell (i := k) (by rw [hl0]; omega)
        have f1 := hr.out.frozen k
        generalize (List.replicate k (97 : Int) ++ List.replicate (L - k) 0).getD k 0 = old at c1
        have Hl0 := Lib.hid hl0
        clear hl0
        go_wp2
        have hset : (List.replicate k (97 : Int) ++ List.replicate (L - k) 0).set k 97 = List.replicate (k + 1) 97 ++ List.replicate (L - (k + 1)) 0 := by
          rw [show L - k = (L - (k + 1)) + 1 by omega, List.replicate_succ, List.replicate_succ']
          simp
        have hr2 := hr.out.set k 97
        rw [hset] at hr2
        have hv2 := hv.out.set_other (g' := d) (by have := Hdg.out; omega) k (.int .u8 97)
        have hb2 := hb.out.setCell (p := ⟨d, k, none⟩) HW3.out (.int .u8 97)
        have Hr2 := Lib.hid hr2
        have Hv2 := Lib.hid hv2
        have Hb2 := Lib.hid hb2
        clear hr2 hv2 hb2 hset
        go_roundw
        case rel => exact ⟨k + 1, by omega, by go_num, Lib.hid (.inr (by omega)), Hv2, Hr2, Hb2⟩
        case measure => simp [intOf]; omega
      · have q2 : decide ((k : Int) + 1 < (L : Int)) = false := by simp; omega
        have hlist : List.replicate k (97 : Int) ++ List.replicate (L - k) 0 = List.replicate (L - 1) 97 ++ List.replicate (min L 1) 0 := by
          rcases hk1.out with h | h
          · subst h
            rcases Nat.eq_zero_or_pos L with h0 | h0
            · subst h0; rfl
            · have : L = 1 := by omega
              subst this; rfl
          · rw [show k = L - 1 by omega, show L - (L - 1) = 1 by omega, show min L 1 = 1 by omega]
        obtain ⟨b3, s3⟩ := Hend.out wr _ hv.out hr.out hl0 hb.out
        rw [hlist] at s3
        have Hs3 := Lib.hid s3
        have Hb33 := Lib.hid b3
        have y0 : wr.cell? ⟨g, 0, none⟩ = some (.int .i64 kind) := hv.out.cell rfl
        have y1 : wr.cell? ⟨g, 1, none⟩ = some (.int .i64 count) := hv.out.cell rfl
        have x0 : wr.cell? ⟨w.heap.size, 0, none⟩ = some (.int .i64 0) := Hb33.out.cell rfl
        have x1 : wr.cell? ⟨w.heap.size, 1, none⟩ = some (.int .i64 0) := Hb33.out.cell rfl
        have x2 : wr.cell? ⟨w.heap.size, 2, none⟩ = some (.slice none 0 0) := Hb33.out.cell rfl
        have f0 := Hb33.out.frozen 0
        have f1 := Hb33.out.frozen 1
        have f2 := Hb33.out.frozen 2
        clear hl0 hlist b3 s3
        go_wp2
        refine bodyPost_ret (results_cell_row rfl _ _ w.heap.size 24 #[.int .i64 kind, .int .i64 count, .slice (some ⟨d, 0, none⟩) L L] (0, 0) _ rfl (Hb33.out.set3 _ _ _) Try.underlying24 rfl (by kernel_rfl)) rfl ?_
        exact ⟨_, _, _, rfl, by rw [Hm2.out]; exact Hs3.out, by
          rw [Hm2.out]
          exact Byt.append (fun x hx => by rw [(List.mem_replicate.1 hx).2]; omega) (fun x hx => by rw [(List.mem_replicate.1 hx).2]; omega), below_set3 (BW.out.trans (hb.out.mono BW.out.size)) (Nat.le_refl _) _ _ _⟩
  · have q1 : (kind == 2) = false := by simpa using hk2
    have hm2 : madeB kind count = List.replicate L 0 := by rw [Hmade.out, if_neg hk2]
    have Hm2 := Lib.hid hm2
    clear hk2 hm2
    have y0 : W3.cell? ⟨g, 0, none⟩ = some (.int .i64 kind) := V3.out.cell rfl
    have y1 : W3.cell? ⟨g, 1, none⟩ = some (.int .i64 count) := V3.out.cell rfl
    have y2 : W3.cell? ⟨g, 2, none⟩ = some (.slice (some ⟨d, 0, none⟩) L L) := V3.out.cell rfl
    have x0 : W3.cell? ⟨w.heap.size, 0, none⟩ = some (.int .i64 0) := B3.out.cell rfl
    have x1 : W3.cell? ⟨w.heap.size, 1, none⟩ = some (.int .i64 0) := B3.out.cell rfl
    have x2 : W3.cell? ⟨w.heap.size, 2, none⟩ = some (.slice none 0 0) := B3.out.cell rfl
    have f0 := B3.out.frozen 0
    have f1 := B3.out.frozen 1
    have f2 := B3.out.frozen 2
    obtain ⟨b3, s3⟩ := Hend.out W3 _ V3.out R3.out (by simp) Hb3.out
    have Hs3 := Lib.hid s3
    have Hb33 := Lib.hid b3
    clear s3 b3
    refine wp_loop_rounds 1 ?_
    rw [rounds_succ]
    by_cases hl1 : 1 < L
    · have q2 : decide ((1 : Int) < (L : Int)) = true := by simp; omega
      go_wp2
      refine bodyPost_ret (results_cell_row rfl _ _ w.heap.size 24 #[.int .i64 kind, .int .i64 count, .slice (some ⟨d, 0, none⟩) L L] (0, 0) _ rfl (Hb33.out.set3 _ _ _) Try.underlying24 rfl (by kernel_rfl)) rfl ?_
      exact ⟨_, _, _, rfl, by rw [Hm2.out]; exact Hs3.out, by rw [Hm2.out]; exact (fun x hx => by rw [(List.mem_replicate.1 hx).2]; omega), below_set3 (BW.out.trans (Hb3.out.mono BW.out.size)) (Nat.le_refl _) _ _ _⟩
    · have q2 : decide ((1 : Int) < (L : Int)) = false := by simp; omega
      go_wp2
      refine bodyPost_ret (results_cell_row rfl _ _ w.heap.size 24 #[.int .i64 kind, .int .i64 count, .slice (some ⟨d, 0, none⟩) L L] (0, 0) _ rfl (Hb33.out.set3 _ _ _) Try.underlying24 rfl (by kernel_rfl)) rfl ?_
      exact ⟨_, _, _, rfl, by rw [Hm2.out]; exact Hs3.out, by rw [Hm2.out]; exact (fun x hx => by rw [(List.mem_replicate.1 hx).2]; omega), below_set3 (BW.out.trans (Hb3.out.mono BW.out.size)) (Nat.le_refl _) _ _ _⟩
end Go.Proofs.Ytnhcmibngcmebaa
