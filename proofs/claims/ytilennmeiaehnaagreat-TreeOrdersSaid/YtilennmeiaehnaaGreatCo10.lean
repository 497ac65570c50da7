/- Chapter 20: one more spot, in the program's planner. -/
import Derived.Test.YtilennmeiaehnaaGreatCo09
namespace Go.Proofs.YtilennmeiaehnaaGreat
open Go.RowKit Tt
set_option linter.unusedVariables false
set_option linter.unusedSimpArgs false

set_option maxHeartbeats 1000000 in
theorem ptake_any (g : Nat) (e : Nat) (y z : Value) (T : TypeId) (long : Int) (w : World) (h : Blk w g T #[.int .i64 e, y, z]) (h1 : e < 4611686018427387) (h2 : 0 ≤ long) (h3 : long < 4611686018427387) :
    Calls Tryz.prog 108 #[.pointer (some ⟨g, 0, none⟩), .int .i64 long] w fun x w' => x = .returned (.int .i64 (evenS e)) ∧ Blk w' g T #[.int .i64 (evenS e + long), y, z] ∧ But g w w' := by
  have hV := fun W => even_any e W (by omega)
  have hev := evenS_le (n := e) (by omega)
  have c0 : w.cell? ⟨g, 0, none⟩ = some (.int .i64 e) := h.cell rfl
  have f0 := h.frozen 0
  generalize evenS e = q at *
  have hw : IntKind.i64.wrap (q + long) = q + long := by rw [IntKind.wrap_i64]; omega
  have h' := Lib.hid h
  have hV' := Lib.hid hV
  clear h hV
  go_enter Tryz.func108, Tryz.ntmps108
  go_wp2_with fail
  refine (hV'.out _).mono ?_
  rintro e w2 ⟨rfl, rfl⟩
  go_wp2_with fail
  go_ret
  exact ⟨rfl, h'.out.set 0 _, (But.refl g w).set 0 _⟩
/-- the planner, in block g; its spots in blocks behind that one -/
structure Pln (g : Nat) (w : World) (no : Int) (v : Value) (l : List Spt) : Prop where
  blk : Blk w g 106 #[.int .i64 (endS l), .int .i64 no, v]
  spots : Spr (g + 1) w v l
theorem Pln.later {g : Nat} {w w' : World} {no : Int} {v : Value} {l : List Spt} (h : Pln g w no v l) (hb : Below w.heap.size w w') : Pln g w' no v l := ⟨h.blk.late hb, own_later h.spots hb⟩
theorem Pln.ne {g : Nat} {w : World} {no : Int} {v : Value} {l : List Spt} (h : Pln g w no v l) : v.ownBlock ≠ some g := own_ne h.spots (by omega)
set_option maxHeartbeats 2000000 in
theorem pput_any (g : Nat) (no : Int) (v : Value) (l : List Spt) (x0 x1 x2 x4 : Int) (w : World) (h : Pln g w no v l) (h0 : 0 ≤ endS l) (h1 : endS l < 4611686018427387) (h2 : 0 ≤ x4) (h3 : x4 < 4611686018427387) (hl : l.length < 1000000) :
    Calls Tryz.prog 58 #[.pointer (some ⟨g, 0, none⟩), .int .i64 x0, .int .i64 x1, .int .i64 x2, .int .i64 x4] w fun e w' => ∃ v', e = .returned (.tuple #[]) ∧ Pln g w' no v' (addS l x0 x1 x2 x4) ∧ Mv g g v v' w w' := by
  obtain ⟨i0, z0, hi0, hz, hz1, hz2, hz3⟩ := info_of spI1 spI2
  obtain ⟨hblk, hsp⟩ := h
  have hne : v.ownBlock ≠ some g := own_ne hsp (by omega)
  have hgw := hblk.lt
  obtain ⟨a, c, rfl⟩ := row_slice hsp
  obtain ⟨e, he⟩ := Int.eq_ofNat_of_zero_le h0
  have hea := endS_add l x0 x1 x2 x4
  have hT := fun W (h : Blk W g 106 #[.int .i64 (endS l), .int .i64 no, .slice a l.length c]) => ptake_any g e (.int .i64 no) (.slice a l.length c) 106 x4 W (by rw [he] at h; exact h) (by omega) h2 h3
  suffices hgoal : Calls Tryz.prog 58 #[.pointer (some ⟨g, 0, none⟩), .int .i64 x0, .int .i64 x1, .int .i64 x2, .int .i64 x4] w fun e w' => ∃ v', e = .returned (.tuple #[]) ∧ Blk w' g 106 #[.int .i64 (endS (addS l x0 x1 x2 x4)), .int .i64 no, v'] ∧ w'.ownsRow (g + 1) 57 5 v' (addS l x0 x1 x2 x4).length (fl spC (addS l x0 x1 x2 x4)) ∧ Mv g g (.slice a l.length c) v' w w' by
    refine hgoal.mono ?_
    rintro e w' ⟨v', q1, q2, q3, q4⟩
    exact ⟨v', q1, ⟨q2, q3⟩, q4⟩
  rw [hea]
  unfold Spr at hsp
  unfold addS
  rw [fl_snoc, List.length_append]
  simp only [List.length_cons, List.length_nil, Nat.zero_add]
  rw [← he] at hT
  have hr : ((e : Nat) : Int) = endS l := he.symm
  clear hea h0 h1 he
  generalize endS l = p at *
  subst hr
  generalize evenS e = q at *
  have c2 : w.cell? ⟨g, 2, none⟩ = some (.slice a l.length c) := hblk.cell rfl
  obtain ⟨Ty, f, hne0, hcell, hsurj⟩ := cell_worlds ⟨g, 2, none⟩ _ w c2
  have HS := Lib.hid (hsurj _ (show w.drew.cell? _ = _ from c2))
  have HD := Lib.hid ((Below.refl w.heap.size w).drew)
  have hblk' := Lib.hid hblk
  have hsp' := Lib.hid hsp
  have hne' := Lib.hid hne
  have hsurj' := Lib.hid hsurj
  have hT' := Lib.hid hT
  have c2' := Lib.hid c2
  clear hblk hsp hne hsurj hT c2
  go_enter Tryz.func58, Tryz.ntmps58
  go_wp2_with fail
  refine wp_noP ?_
  refine till_begin (t := 19) (C := fun W => ∃ s, W = f s) (by kernel_rfl) 20 rfl ?_
  refine till_take [0, 1, 2, 3, 4, 5, 6, 7, 8, 9, 10, 11, 13] 7 (by kernel_rfl) noP_put (by kernel_rfl) (by kernel_rfl) (by kernel_rfl) HS.out ?_
  simp only [pickL, List.map_cons, List.map_nil, List.getD_cons_succ, List.getD_cons_zero]
  iterate 13 (go_big_quiet_step (fail))
  refine wpQuiet_nil ?_
  refine till_one 12 6 (by kernel_rfl) (by kernel_rfl) ?_
  simp only [pickL, List.map_cons, List.map_nil, List.getD_cons_succ, List.getD_cons_zero]
  go_wp2_with fail
  refine (hT'.out _ (hblk'.out.late HD.out)).mono ?_
  rintro e1 w1 ⟨rfl, hb1, hbut1⟩
  have hbut := (But.of_below (b := g) HD.out).trans hbut1
  have hsp1 := own_but hsp'.out hbut hne'.out
  have d2 : w1.cell? ⟨g, 2, none⟩ = some (.slice a l.length c) := hb1.cell rfl
  have HS := Lib.hid (hsurj'.out _ d2)
  have hg1 := hb1.lt
  clear hbut1 d2
  have hb1' := Lib.hid hb1
  have hbut' := Lib.hid hbut
  have hsp1' := Lib.hid hsp1
  clear hb1 hbut hsp1
  go_wp2_with fail
  refine Mid.mk ⟨fun _ => HS.out, ?_⟩
  refine till_take [14] 5 (by kernel_rfl) noP_put (by kernel_rfl) (by kernel_rfl) (by kernel_rfl) HS.out ?_
  simp only [pickL, List.map_cons, List.map_nil, List.getD_cons_succ, List.getD_cons_zero]
  iterate 1 (go_big_quiet_step (fail))
  refine wpQuiet_nil ?_
  refine till_one 15 4 (by kernel_rfl) (by kernel_rfl) ?_
  simp only [pickL, List.map_cons, List.map_nil, List.getD_cons_succ, List.getD_cons_zero]
  go_wp2_with fail
  have hal := (Below.refl w1.heap.size w1).alloc (Nat.le_refl _) (.cells #[.int .i64 x0, .int .i64 x1, .int .i64 x2, .int .i64 q, .int .i64 x4] 57)
  have hnew : Sl (w1.alloc (.cells #[.int .i64 x0, .int .i64 x1, .int .i64 x2, .int .i64 q, .int .i64 x4] 57)) (some ⟨w1.heap.size, 0, none⟩) 1 1 5 (spC (x0, x1, x2, q, x4)) := Sl.new w1 57 5 1 #[.int .i64 x0, .int .i64 x1, .int .i64 x2, .int .i64 q, .int .i64 x4] (0, 0) (by omega) rfl
  have hb2 := hb1'.out.late hal
  have hsp2 := own_later hsp1'.out hal
  have d2 : (w1.alloc (.cells #[.int .i64 x0, .int .i64 x1, .int .i64 x2, .int .i64 q, .int .i64 x4] 57)).cell? ⟨g, 2, none⟩ = some (.slice a l.length c) := hb2.cell rfl
  have HS := Lib.hid (hsurj'.out _ d2)
  clear d2
  have hmv2 : Mv g g (.slice a l.length c) (.slice a l.length c) w (w1.alloc (.cells #[.int .i64 x0, .int .i64 x1, .int .i64 x2, .int .i64 q, .int .i64 x4] 57)) := (Mv.of_but hbut'.out (.inl rfl)).trans (Mv.of_below hal)
  have hB2 : g + 1 ≤ (w1.alloc (.cells #[.int .i64 x0, .int .i64 x1, .int .i64 x2, .int .i64 q, .int .i64 x4] 57)).heap.size := by simp; omega
  have hal' := Lib.hid hal
  have hnew' := Lib.hid hnew
  have hb2' := Lib.hid hb2
  have hsp2' := Lib.hid hsp2
  have hmv2' := Lib.hid hmv2
  clear hal hnew hb2 hsp2 hmv2
  refine Mid.mk ⟨fun _ => HS.out, ?_⟩
  refine till_one 16 3 (by kernel_rfl) (by kernel_rfl) ?_
  simp only [pickL, List.map_cons, List.map_nil, List.getD_cons_succ, List.getD_cons_zero]
  go_wp2_with (at_builtin; refine wpList_app2 rfl _ _ 51 rfl (g + 1) 57 i0 z0 5 40 Tryz.underlying51 hi0 hz hz1 hz2 hz3 (by decide) (.slice a l.length c) l.length _ rfl hsp2'.out ⟨w1.heap.size, 0, none⟩ 1 1 (spC (x0, x1, x2, q, x4)) rfl hnew'.out (spC_one _) (by omega) (by decide) hB2 ?_; intro a8 c8 w8 ob hg8 hown8; have Ob := Lib.hid ob; have Hg8 := Lib.hid hg8; have Ho8 := Lib.hid hown8; clear ob hg8 hown8)
  have hb8 := hb2'.out.grown Hg8.out hne'.out
  have hmv8 := hmv2'.out.trans (Mv.of_grown Hg8.out Ho8.out)
  have d2 : w8.cell? ⟨g, 2, none⟩ = some (.slice a l.length c) := hb8.cell rfl
  have HS := Lib.hid (hsurj'.out _ d2)
  have f2 := hb8.frozen 2
  have hb8' := Lib.hid hb8
  have hmv8' := Lib.hid hmv8
  clear hb8 hmv8
  refine Mid.mk ⟨fun _ => HS.out, ?_⟩
  refine till_free [17, 18] 1 (by kernel_rfl) noP_put (by kernel_rfl) (by kernel_rfl) (by kernel_rfl) HS.out ?_
  simp only [pickL, List.map_cons, List.map_nil, List.getD_cons_succ, List.getD_cons_zero]
  iterate 2 (go_big_quiet_step (fail))
  refine wpQuiet_nil ?_
  refine till_one 19 0 (by kernel_rfl) (by kernel_rfl) ?_
  simp only [pickL, List.map_cons, List.map_nil, List.getD_cons_succ, List.getD_cons_zero]
  go_wp2_with fail
  have hb9 := hb8'.out.set 2 (.slice a8 (l.length + 1) c8)
  have ho9 := own_set_other Ob.out (show g < g + 1 by omega) 2 (.slice a8 (l.length + 1) c8)
  have hmv9 := hmv8'.out.trans (Mv.of_but (g := g) (gt := g) (sv := .slice a8 (l.length + 1) c8) ((But.refl g w8).set 2 (.slice a8 (l.length + 1) c8)) (.inl rfl))
  have hb9' := Lib.hid hb9
  have ho9' := Lib.hid ho9
  have hmv9' := Lib.hid hmv9
  clear hb9 ho9 hmv9
  first | refine Mid.mk ?_ | skip
  first | refine ⟨fun h => (Bool.false_ne_true h.symm).elim, ?_⟩ | skip
  refine till_last (by kernel_rfl) ?_
  refine noP_normal ?_
  go_wp2_with fail
  refine bodyPost_end (results_none rfl _ _ _) rfl ?_
  exact ⟨_, rfl, hb9'.out, ho9'.out, hmv9'.out⟩
end Go.Proofs.YtilennmeiaehnaaGreat
