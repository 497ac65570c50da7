import Derived.Test.YtnhcmibngcmebaaReg2image
import Derived.Test.YtnhcmibngcmebaaReg2photo
import Derived.Test.YtnhcmibngcmebaaReg2gps
import Derived.Test.YtnhcmibngcmebaaReg2view
namespace Go.Proofs.Ytnhcmibngcmebaa
open Go.RowKit Tt
set_option linter.unusedVariables false

def interT : List (Int × List Int × Int) := [(1, [2], 4), (2, [7], 4)]
theorem interT_nodup : (interT.map (·.1)).Nodup := by decide
def allE : List Ent := [] ++ ents 0 imageT ++ ents 1 imageT ++ ents 2 photoT ++ ents 3 gpsT ++ ents 4 interT ++ ents 5 viewT
theorem ents_dir {d : Int} {ts : List (Int × List Int × Int)} {x : Ent} (h : x ∈ ents d ts) : x.1.1 = d := by
  unfold ents at h
  obtain ⟨y, _, rfl⟩ := List.mem_map.1 h
  rfl

theorem of_any (box m : Nat) (dir : Int) (w : World) (hc : w.cell? ⟨box, 0, none⟩ = some (.map (some m))) :
    Calls Try.prog 55 #[.int .i64 dir, .pointer (some ⟨box, 0, none⟩)] w fun e w' => e = .returned (.agg #[.map (some m), .int .i64 dir]) ∧ Below w.heap.size w w' := by
  have hlt : box < w.heap.size := World.block_lt_of_cell? w ⟨box, 0, none⟩ hc
  go_enter Try.func55, Try.ntmps55
  go_wp2
  refine bodyPost_ret (results_cell_row rfl _ _ w.heap.size 82 #[.map (some m), .int .i64 dir] (0, 0) _ rfl (heap_new w _) Try.underlying82 rfl (by kernel_rfl)) rfl ?_
  exact ⟨rfl, (Below.refl _ _).alloc (Nat.le_refl _) _⟩

theorem dir_app {l : List Ent} {d d' : Int} {ts : List (Int × List Int × Int)} (hl : ∀ x ∈ l, x.1.1 ≠ d) (hne : d' ≠ d) : ∀ x ∈ l ++ ents d' ts, x.1.1 ≠ d := by
  intro x hx
  rcases List.mem_append.1 hx with h | h
  · exact hl x h
  · rw [ents_dir h]; exact hne

set_option maxHeartbeats 4000000 in
theorem rules_any (w : World) :
    Calls Try.prog 34 #[] w fun e w' => ∃ b, e = .returned (.map (some b)) ∧ w.heap.size ≤ b ∧ Rules w' b allE ∧ Below w.heap.size w w' := by
  have hmm := @run_makeMap Try.prog
  go_enter Try.func34, Try.ntmps34
  go_wp2_with fail
  have r0 : Rules ((w.alloc (.map #[] 0)).alloc (.cells #[.map (some w.heap.size)] 58)) w.heap.size [] := (Rules.made w).mono ((Below.refl _ _).alloc (Nat.le_refl _) _)
  have c0 : ((w.alloc (.map #[] 0)).alloc (.cells #[.map (some w.heap.size)] 58)).cell? ⟨w.heap.size + 1, 0, none⟩ = some (.map (some w.heap.size)) := by
    have h := heap_new (w.alloc (.map #[] 0)) (.cells #[.map (some w.heap.size)] 58)
    have e : (w.alloc (.map #[] 0)).heap.size = w.heap.size + 1 := by simp
    rw [e] at h
    unfold World.cell?
    rw [h]
    rfl
  have b0 : Below w.heap.size w ((w.alloc (.map #[] 0)).alloc (.cells #[.map (some w.heap.size)] 58)) := ((Below.refl _ _).alloc (Nat.le_refl _) _).alloc (by simp) _
  have s0 : w.heap.size + 1 < ((w.alloc (.map #[] 0)).alloc (.cells #[.map (some w.heap.size)] 58)).heap.size := by simp
  generalize ((w.alloc (.map #[] 0)).alloc (.cells #[.map (some w.heap.size)] 58)) = w0 at *
  have hnil : ∀ d : Int, ∀ x ∈ ([] : List Ent), x.1.1 ≠ d := fun d x hx => by cases hx
  obtain ⟨N, hN⟩ : ∃ N, N = w.heap.size := ⟨_, rfl⟩
  rw [← hN] at r0 c0 b0 s0 ⊢
  have HN := Lib.hid hN
  have HB0 := Lib.hid b0
  clear hN hmm b0
  have bb0 : But N w0 w0 := But.refl _ _
  have hs0 : N + 1 < w0.heap.size := by have := bb0.size; omega
  have hc0 : w0.cell? ⟨N + 1, 0, none⟩ = some (.map (some N)) := by rw [bb0.cell (p := ⟨N + 1, 0, none⟩) s0 (by simp)]; exact c0
  go_wp2_with fail
  refine (of_any (N + 1) N 0 w0 hc0).mono ?_
  rintro e v0 ⟨rfl, q0⟩
  have m0 := r0.mono q0
  have bq0 : But N w0 v0 := bb0.trans (But.of_below q0)
  clear q0 hc0 hs0
  go_wp2_with fail
  refine (image_any N 0 _ v0 m0 (by decide) (hnil 0)).mono ?_
  rintro e u0 ⟨rfl, r1, x0⟩
  have bb1 : But N w0 u0 := bq0.trans x0
  clear m0 bq0 x0
  have hs1 : N + 1 < u0.heap.size := by have := bb1.size; omega
  have hc1 : u0.cell? ⟨N + 1, 0, none⟩ = some (.map (some N)) := by rw [bb1.cell (p := ⟨N + 1, 0, none⟩) s0 (by simp)]; exact c0
  go_wp2_with fail
  refine (of_any (N + 1) N 1 u0 hc1).mono ?_
  rintro e v1 ⟨rfl, q1⟩
  have m1 := r1.mono q1
  have bq1 : But N w0 v1 := bb1.trans (But.of_below q1)
  clear q1 hc1 hs1
  go_wp2_with fail
  refine (image_any N 1 _ v1 m1 (by decide) (dir_app (hnil 1) (by decide))).mono ?_
  rintro e u1 ⟨rfl, r2, x1⟩
  have bb2 : But N w0 u1 := bq1.trans x1
  clear m1 bq1 x1
  have hs2 : N + 1 < u1.heap.size := by have := bb2.size; omega
  have hc2 : u1.cell? ⟨N + 1, 0, none⟩ = some (.map (some N)) := by rw [bb2.cell (p := ⟨N + 1, 0, none⟩) s0 (by simp)]; exact c0
  go_wp2_with fail
  refine (of_any (N + 1) N 2 u1 hc2).mono ?_
  rintro e v2 ⟨rfl, q2⟩
  have m2 := r2.mono q2
  have bq2 : But N w0 v2 := bb2.trans (But.of_below q2)
  clear q2 hc2 hs2
  go_wp2_with fail
  refine (photo_any N 2 _ v2 m2 (by decide) (dir_app (dir_app (hnil 2) (by decide)) (by decide))).mono ?_
  rintro e u2 ⟨rfl, r3, x2⟩
  have bb3 : But N w0 u2 := bq2.trans x2
  clear m2 bq2 x2
  have hs3 : N + 1 < u2.heap.size := by have := bb3.size; omega
  have hc3 : u2.cell? ⟨N + 1, 0, none⟩ = some (.map (some N)) := by rw [bb3.cell (p := ⟨N + 1, 0, none⟩) s0 (by simp)]; exact c0
  go_wp2_with fail
  refine (of_any (N + 1) N 3 u2 hc3).mono ?_
  rintro e v3 ⟨rfl, q3⟩
  have m3 := r3.mono q3
  have bq3 : But N w0 v3 := bb3.trans (But.of_below q3)
  clear q3 hc3 hs3
  go_wp2_with fail
  refine (gps_any N 3 _ v3 m3 (by decide) (dir_app (dir_app (dir_app (hnil 3) (by decide)) (by decide)) (by decide))).mono ?_
  rintro e u3 ⟨rfl, r4, x3⟩
  have bb4 : But N w0 u3 := bq3.trans x3
  clear m3 bq3 x3
  have hs4 : N + 1 < u3.heap.size := by have := bb4.size; omega
  have hc4 : u3.cell? ⟨N + 1, 0, none⟩ = some (.map (some N)) := by rw [bb4.cell (p := ⟨N + 1, 0, none⟩) s0 (by simp)]; exact c0
  go_wp2_with fail
  refine (of_any (N + 1) N 4 u3 hc4).mono ?_
  rintro e v4 ⟨rfl, q4⟩
  have m4 : Rules v4 N (([] ++ ents 0 imageT ++ ents 1 imageT ++ ents 2 photoT ++ ents 3 gpsT) ++ ents 4 (interT.take 0)) := by simpa [ents] using (r4.mono q4)
  have bq4 : But N w0 v4 := bb4.trans (But.of_below q4)
  clear q4 hc4 hs4
  go_wp2_with fail
  refine (put_at N 4 interT interT_nodup _ (by decide) (dir_app (dir_app (dir_app (dir_app (hnil 4) (by decide)) (by decide)) (by decide)) (by decide)) 0 _ _ [2] rfl (by decide) _ _ _ _ (m4.mono ((Below.refl _ _).alloc (Nat.le_refl _) _)) (Sl.new v4 3 1 1 #[.int .i64 2] (0, 0) (by decide) rfl)).mono ?_
  rintro e u4 ⟨rfl, r5, x4⟩
  have bb5 : But N w0 u4 := (bq4.alloc _).trans x4
  clear m4 bq4 x4
  have hs5 : N + 1 < u4.heap.size := by have := bb5.size; omega
  have hc5 : u4.cell? ⟨N + 1, 0, none⟩ = some (.map (some N)) := by rw [bb5.cell (p := ⟨N + 1, 0, none⟩) s0 (by simp)]; exact c0
  go_wp2_with fail
  refine (of_any (N + 1) N 4 u4 hc5).mono ?_
  rintro e v5 ⟨rfl, q5⟩
  have m5 := r5.mono q5
  have bq5 : But N w0 v5 := bb5.trans (But.of_below q5)
  clear q5 hc5 hs5
  go_wp2_with fail
  refine (put_at N 4 interT interT_nodup _ (by decide) (dir_app (dir_app (dir_app (dir_app (hnil 4) (by decide)) (by decide)) (by decide)) (by decide)) 1 _ _ [7] rfl (by decide) _ _ _ _ (m5.mono ((Below.refl _ _).alloc (Nat.le_refl _) _)) (Sl.new v5 3 1 1 #[.int .i64 7] (0, 0) (by decide) rfl)).mono ?_
  rintro e u5 ⟨rfl, r6, x5⟩
  have bb6 : But N w0 u5 := (bq5.alloc _).trans x5
  clear m5 bq5 x5
  have hs6 : N + 1 < u5.heap.size := by have := bb6.size; omega
  have hc6 : u5.cell? ⟨N + 1, 0, none⟩ = some (.map (some N)) := by rw [bb6.cell (p := ⟨N + 1, 0, none⟩) s0 (by simp)]; exact c0
  go_wp2_with fail
  refine (of_any (N + 1) N 5 u5 hc6).mono ?_
  rintro e v6 ⟨rfl, q6⟩
  have m6 := r6.mono q6
  have bq6 : But N w0 v6 := bb6.trans (But.of_below q6)
  clear q6 hc6 hs6
  go_wp2_with fail
  refine (view_any N 5 _ v6 m6 (by decide) (dir_app (dir_app (dir_app (dir_app (dir_app (hnil 5) (by decide)) (by decide)) (by decide)) (by decide)) (by decide))).mono ?_
  rintro e u6 ⟨rfl, r7, x6⟩
  have bb7 : But N w0 u6 := bq6.trans x6
  clear m6 bq6 x6
  have hs7 : N + 1 < u6.heap.size := by have := bb7.size; omega
  have hc7 : u6.cell? ⟨N + 1, 0, none⟩ = some (.map (some N)) := by rw [bb7.cell (p := ⟨N + 1, 0, none⟩) s0 (by simp)]; exact c0
  go_wp2
  go_ret
  exact ⟨N, rfl, by rw [HN.out]; exact Nat.le_refl _, r7, by rw [← HN.out]; exact HB0.out.trans (bb7.below (Nat.le_refl _) (by omega))⟩
end Go.Proofs.Ytnhcmibngcmebaa
