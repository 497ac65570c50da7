/- Chapter 18: Of of the program. | Chapter 19: Read of both sides. -/
import Derived.Test.YtilennmeiaehnaaGreatCa03
import Derived.Test.YtilennmeiaehnaaGreatCa04
namespace Go.Proofs.YtilennmeiaehnaaGreat
open Go.RowKit Tt
set_option linter.unusedVariables false
set_option linter.unusedSimpArgs false

/-- a value of a type and a count out of bytes -/
def ofS (ty cnt : Int) (b : List Int) (o : Int) : Option (List Int) :=
  if (kindS ty).1 = 0 ∨ cnt < 1 ∨ 65536 < cnt ∨ (b.length : Int) < cnt * (kindS ty).1 then none
  else if mayS ty cnt (turnS (b.take (cnt * (kindS ty).1).toNat) (kindS ty).2.1 o) = true then some (turnS (b.take (cnt * (kindS ty).1).toNat) (kindS ty).2.1 o) else none
theorem ofS_len {ty cnt : Int} {b d : List Int} {o : Int} (h : ofS ty cnt b o = some d) : (d.length : Int) = cnt * (kindS ty).1 := by
  unfold ofS at h
  split at h
  · cases h
  · split at h
    · rename_i h1 h2
      obtain rfl : _ = d := by simpa using h
      unfold mayS at h2
      simp at h2
      exact h2.1.2
    · cases h
theorem ofS_byt {ty cnt : Int} {b d : List Int} {o : Int} (h : ofS ty cnt b o = some d) (hb : Byt b) : Byt d := by
  unfold ofS at h
  split at h
  · cases h
  · split at h
    · obtain rfl : _ = d := by simpa using h
      exact byt_turn (hb.take _) _ _
    · cases h
theorem ofS_no {ty cnt : Int} {b : List Int} {o : Int} (h : (kindS ty).1 = 0 ∨ cnt < 1 ∨ 65536 < cnt ∨ (b.length : Int) < cnt * (kindS ty).1) : ofS ty cnt b o = none := by
  unfold ofS; rw [if_pos h]
theorem ofS_yes {ty cnt : Int} {b : List Int} {o : Int} (h : ¬ ((kindS ty).1 = 0 ∨ cnt < 1 ∨ 65536 < cnt ∨ (b.length : Int) < cnt * (kindS ty).1)) :
    ofS ty cnt b o = if mayS ty cnt (turnS (b.take (cnt * (kindS ty).1).toNat) (kindS ty).2.1 o) = true then some (turnS (b.take (cnt * (kindS ty).1).toNat) (kindS ty).2.1 o) else none := by
  unfold ofS; rw [if_neg h]
abbrev OfPost (w : World) (ty cnt : Int) (R : Option (List Int)) (e : Ending) (w' : World) : Prop :=
  ∃ ty' cnt' a2 m c2, e = .returned (.tuple #[.agg #[.int .i64 ty', .int .i64 cnt', .slice a2 m c2], .bool R.isSome]) ∧ Below w.heap.size w w' ∧
    ∀ d, R = some d → ty' = ty ∧ cnt' = cnt ∧ w'.ownsRow w.heap.size 5 1 (.slice a2 m c2) m (ints .u8 d)
set_option maxRecDepth 20000 in
set_option maxHeartbeats 4000000 in
theorem of_any (ty cnt : Int) (a : Option Addr) (n c : Nat) (b : List Int) (o : Int) (w : World) (hs : Sl w a n c 1 (ints .u8 b)) (hby : Byt b) :
    Calls Tryz.prog 65 #[.int .i64 ty, .int .i64 cnt, .slice a n c, .int .i64 o] w (OfPost w ty cnt (ofS ty cnt b o)) := by
  have hbl := hs.ilen; have hle := hs.le; have hmx := hs.max; have hsz := kindS_size ty; have hK := kind_any ty; have hno := ofS_no (ty := ty) (cnt := cnt) (b := b) (o := o); have hyes := ofS_yes (ty := ty) (cnt := cnt) (b := b) (o := o)
  generalize ofS ty cnt b o = R at *
  obtain ⟨sz, hszz⟩ : ∃ s, (kindS ty).1 = s := ⟨_, rfl⟩; obtain ⟨pt, hptt⟩ : ∃ s, (kindS ty).2.1 = s := ⟨_, rfl⟩; rw [hszz] at hsz hK hno hyes; rw [hptt] at hK hyes
  generalize (kindS ty).2.2 = is at *
  clear hszz hptt; rw [hbl] at hno hyes; have hs' := Lib.hid hs; have hby' := Lib.hid hby
  have hbl' := Lib.hid hbl; have hK' := Lib.hid hK; have hyes' := Lib.hid hyes; have hno' := Lib.hid hno; clear hs hby hbl hK hyes hno
  go_enter Tryz.func65, Tryz.ntmps65
  go_wp2_with fail
  refine (hK'.out _).mono ?_; rintro e w1 ⟨rfl, hb1⟩; have b0 : Blk w1 w.heap.size 76 #[.int .i64 0, .int .i64 0, .slice none 0 0] := Blk.late (Blk.new w _ _) hb1; have hbb := ((Below.refl w.heap.size w).alloc (Nat.le_refl _) (.cells #[.int .i64 0, .int .i64 0, .slice none 0 0] 76)).trans (hb1.mono (by simp)); have b0lt := b0.lt; clear hb1
  go_upto_region 2 with fail
  have b0 := b0.alloc (.cells #[.int .i64 sz, .int .i64 pt, .int .i64 is] 177); have hbb := hbb.alloc hbb.size (.cells #[.int .i64 sz, .int .i64 pt, .int .i64 is] 177); have b1 : Blk (w1.alloc (.cells #[.int .i64 sz, .int .i64 pt, .int .i64 is] 177)) w1.heap.size 177 #[.int .i64 sz, .int .i64 pt, .int .i64 is] := Blk.new _ _ _; have h01 : w.heap.size < w1.heap.size := b0lt
  generalize (w1.alloc (.cells #[.int .i64 sz, .int .i64 pt, .int .i64 is] 177)) = W at *
  obtain ⟨g1, hg1⟩ : ∃ g, w1.heap.size = g := ⟨_, rfl⟩; rw [hg1] at b1 h01; rw [hg1]; have c0 : W.cell? ⟨g1, 0, none⟩ = some (.int .i64 sz) := b1.cell rfl; have p0 : W.cell? ⟨w.heap.size, 0, none⟩ = some (.int .i64 0) := b0.cell rfl; have p1 : W.cell? ⟨w.heap.size, 1, none⟩ = some (.int .i64 0) := b0.cell rfl; have p2 : W.cell? ⟨w.heap.size, 2, none⟩ = some (.slice none 0 0) := b0.cell rfl; have y0 := b0.frozen 0; have y1 := b0.frozen 1; have y2 := b0.frozen 2; clear hg1; have b0' := Lib.hid b0; have hbb' := Lib.hid hbb; have b1' := Lib.hid b1; clear b0 hbb b1
  by_cases t1 : sz = 0
  · subst t1
    obtain rfl := hno'.out (.inl rfl)
    go_wp2
    refine bodyPost_ret (results_blk_tmp rfl _ _ w.heap.size 76 #[.int .i64 0, .int .i64 0, .slice none 0 0] _ rfl (b0'.out.set3 _ _ _) Tryz.underlying76 rfl (by kernel_rfl)) rfl ?_; exact ⟨0, 0, none, 0, 0, rfl, below_set3 hbb'.out (Nat.le_refl _) _ _ _, fun d h => by cases h⟩
  have f1 : (sz == 0) = false := by simp [t1]
  by_cases t2 : cnt < 1
  · obtain rfl := hno'.out (.inr (.inl t2))
    have f2 : decide (cnt < 1) = true := by simp; omega
    go_wp2
    refine bodyPost_ret (results_blk_tmp rfl _ _ w.heap.size 76 #[.int .i64 0, .int .i64 0, .slice none 0 0] _ rfl (b0'.out.set3 _ _ _) Tryz.underlying76 rfl (by kernel_rfl)) rfl ?_; exact ⟨0, 0, none, 0, 0, rfl, below_set3 hbb'.out (Nat.le_refl _) _ _ _, fun d h => by cases h⟩
  have f2 : decide (cnt < 1) = false := by simp; omega
  by_cases t3 : 65536 < cnt
  · obtain rfl := hno'.out (.inr (.inr (.inl t3)))
    have f3 : decide (65536 < cnt) = true := by simp; omega
    go_wp2
    refine bodyPost_ret (results_blk_tmp rfl _ _ w.heap.size 76 #[.int .i64 0, .int .i64 0, .slice none 0 0] _ rfl (b0'.out.set3 _ _ _) Tryz.underlying76 rfl (by kernel_rfl)) rfl ?_; exact ⟨0, 0, none, 0, 0, rfl, below_set3 hbb'.out (Nat.le_refl _) _ _ _, fun d h => by cases h⟩
  have f3 : decide (65536 < cnt) = false := by simp; omega
  obtain ⟨L, hL⟩ : ∃ L : Nat, cnt * sz = L := by
    have := Int.mul_nonneg (show 0 ≤ cnt by omega) hsz.1; exact ⟨(cnt * sz).toNat, by omega⟩
  have hL2 : (L : Int) ≤ 65536 * 8 := by rw [← hL]; exact Int.mul_le_mul (by omega) (by omega) (by omega) (by omega)
  have hw : IntKind.i64.wrap (cnt * sz) = L := by rw [IntKind.wrap_i64, hL]; omega
  by_cases t4 : (n : Int) < cnt * sz
  · obtain rfl := hno'.out (.inr (.inr (.inr t4)))
    rw [hL] at t4; have f4 : decide ((n : Int) < L) = true := by simp; omega
    go_wp2
    refine bodyPost_ret (results_blk_tmp rfl _ _ w.heap.size 76 #[.int .i64 0, .int .i64 0, .slice none 0 0] _ rfl (b0'.out.set3 _ _ _) Tryz.underlying76 rfl (by kernel_rfl)) rfl ?_; exact ⟨0, 0, none, 0, 0, rfl, below_set3 hbb'.out (Nat.le_refl _) _ _ _, fun d h => by cases h⟩
  have hyy := hyes'.out (by intro h; rcases h with h | h | h | h <;> contradiction); have hRR : R = if mayS ty cnt (turnS (b.take L) pt o) = true then some (turnS (b.take L) pt o) else none := by rw [hyy, hL]; rfl
  rw [hL] at t4; have f4 : decide ((n : Int) < L) = false := by simp; omega
  obtain ⟨a2, hsl, hs2, hin2⟩ := sub_h (P := Tryz.prog) (T := 30) (E := 5) (sz := 1) Tryz.underlying30 (fun W => by kernel_rfl) hs'.out (L : Int) (by omega) (by omega) L rfl; rw [Nat.mul_one, show (ints .u8 b).take L = ints .u8 (b.take L) by simp [ints]] at hs2; obtain ⟨Ty, f, hne, hbel, hsurj⟩ := later_worlds W; have q0 : ∀ s, (f s).cell? ⟨g1, 0, none⟩ = some (.int .i64 sz) := fun s => (Blk.late b1'.out (hbel s)).cell rfl; have q1 : ∀ s, (f s).cell? ⟨g1, 1, none⟩ = some (.int .i64 pt) := fun s => (Blk.late b1'.out (hbel s)).cell rfl; have HS := Lib.hid (hsurj _ ((Below.refl _ _).drew)); have HD := Lib.hid ((Below.refl W.heap.size W).drew); have hLn : (L : Int) ≤ n := by omega
  have hTN := fun W' (h : Below w.heap.size w W') => turn_any a2 L c (b.take L) pt o W' (hs2.mono h) (by omega); clear hyy t1 t2 t3 p0 p1 p2 y0 y1 y2; have hbel' := Lib.hid hbel; have hsurj' := Lib.hid hsurj; have hs2' := Lib.hid hs2; have hin2' := Lib.hid hin2; have hRR' := Lib.hid hRR; have hTN' := Lib.hid hTN; clear hbel hsurj hs2 hin2 hRR hTN
  go_wp2_with fail
  clear c0; refine held_begin (S := fun W => ∃ s, W = f s) (by kernel_rfl) 15 rfl ?_; refine held_take [0, 1, 2, 3, 4, 5, 6, 7, 8, 9, 10] 4 (by kernel_rfl) (fun d _ _ _ _ h => by cases d <;> exact h) (by kernel_rfl) (by kernel_rfl) (by kernel_rfl) HS.out ?_; simp only [pickL, List.map_cons, List.map_nil, List.getD_cons_succ, List.getD_cons_zero]
  iterate 11 (go_big_quiet_step (fail))
  refine wpQuiet_nil ?_; refine held_two 11 13 3 (by kernel_rfl) (by kernel_rfl) ?_ ?_
  all_goals simp only [pickL, List.map_cons, List.map_nil, List.getD_cons_succ, List.getD_cons_zero]
  · go_wp2_with fail
    refine (hTN'.out _ (hbb'.out.trans (HD.out.mono hbb'.out.size))).mono ?_; rintro e w2 ⟨a5, m5, c5, rfl, ho, hb2⟩; have hb := HD.out.trans (hb2.mono HD.out.size); have HS := Lib.hid (hsurj'.out _ hb); have hb' := Lib.hid hb; have ho' := Lib.hid ho; have hb2' := Lib.hid hb2; clear hb ho hb2
    go_wp2_with fail
    first | refine Mid.mk ⟨HS.out, ?_⟩ | refine Mid.mk ?_
    refine held_take [12] 2 (by kernel_rfl) (fun d _ _ _ _ h => by cases d <;> exact h) (by kernel_rfl) (by kernel_rfl) (by kernel_rfl) HS.out ?_; simp only [pickL, List.map_cons, List.map_nil, List.getD_cons_succ, List.getD_cons_zero]
    iterate 1 (go_big_quiet_step (fail))
    refine wpQuiet_nil ?_; refine held_one 13 1 (by kernel_rfl) (by kernel_rfl) ?_; simp only [pickL, List.map_cons, List.map_nil, List.getD_cons_succ, List.getD_cons_zero]
    go_wp2_with fail
    have ho3 := own_later ho'.out ((Below.refl w2.heap.size w2).alloc (Nat.le_refl _) (.cells #[.int .i64 0, .int .i64 0, .slice none 0 0] 76)); have hb3 := hb'.out.alloc hb'.out.size (.cells #[.int .i64 0, .int .i64 0, .slice none 0 0] 76); have b3 : Blk (w2.alloc (.cells #[.int .i64 0, .int .i64 0, .slice none 0 0] 76)) w2.heap.size 76 #[.int .i64 0, .int .i64 0, .slice none 0 0] := Blk.new _ _ _; have h23 : W.heap.size ≤ w2.heap.size := hb'.out.size; have hog : (Value.slice a5 m5 c5).ownBlock ≠ some w2.heap.size := fun hx => by have := (ho'.out.lt _ hx).2; omega
    have HS := Lib.hid (hsurj'.out _ hb3); obtain ⟨g3, hg3⟩ : ∃ g, w2.heap.size = g := ⟨_, rfl⟩
    generalize (w2.alloc (.cells #[.int .i64 0, .int .i64 0, .slice none 0 0] 76)) = w3 at *
    rw [hg3] at b3 h23 hog; rw [hg3]; have ho3' := Lib.hid ho3; have hb3' := Lib.hid hb3; have b3' := Lib.hid b3; clear ho3 hb3 b3; clear hg3
    first | refine Mid.mk ⟨HS.out, ?_⟩ | refine Mid.mk ?_
    refine held_one 14 0 (by kernel_rfl) (by kernel_rfl) ?_; simp only [pickL, List.map_cons, List.map_nil, List.getD_cons_succ, List.getD_cons_zero]; have p0 : w3.cell? ⟨g3, 0, none⟩ = some (.int .i64 0) := b3'.out.cell rfl; have p1 : w3.cell? ⟨g3, 1, none⟩ = some (.int .i64 0) := b3'.out.cell rfl; have p2 : w3.cell? ⟨g3, 2, none⟩ = some (.slice none 0 0) := b3'.out.cell rfl; have y0 := b3'.out.frozen 0; have y1 := b3'.out.frozen 1; have y2 := b3'.out.frozen 2
    go_wp2_with fail
    have b4 := b3'.out.set3 (.int .i64 ty) (.int .i64 cnt) (.slice a5 m5 c5); have hb4 := below_set3 hb3'.out h23 (.int .i64 ty) (.int .i64 cnt) (.slice a5 m5 c5); have ho4 := own_but ho3'.out ((((But.refl g3 w3).set 0 (.int .i64 ty)).set 1 (.int .i64 cnt)).set 2 (.slice a5 m5 c5)) hog; have HS := Lib.hid (hsurj'.out _ hb4); refine Mid.mk ⟨HS.out, ?_⟩; refine held_last (by kernel_rfl) ?_; clear p0 p1 p2 y0 y1 y2 b3' hb3' ho3'
    generalize (((w3.setCell ⟨g3, 0, none⟩ (.int .i64 ty)).setCell ⟨g3, 1, none⟩ (.int .i64 cnt)).setCell ⟨g3, 2, none⟩ (.slice a5 m5 c5)) = w4 at *
    have c0 : w4.cell? ⟨g3, 0, none⟩ = some (.int .i64 ty) := b4.cell rfl; have c1 : w4.cell? ⟨g3, 1, none⟩ = some (.int .i64 cnt) := b4.cell rfl; have c2 : w4.cell? ⟨g3, 2, none⟩ = some (.slice a5 m5 c5) := b4.cell rfl; have b04 := b0'.out.late hb4; have hbw4 := hbb'.out.trans (hb4.mono hbb'.out.size); have hM := may_any ty cnt a5 m5 c5 (turnS (b.take L) pt o) w4 (Sl.of_own ho4).1 (byt_turn (hby'.out.take _) _ _); have hW4 := hb4.size; have h0W := b0'.out.lt; clear hb2' ho' hb'; obtain ⟨r, hr⟩ : ∃ r, mayS ty cnt (turnS (b.take L) pt o) = r := ⟨_, rfl⟩; rw [hr] at hM; have hRr := hRR'.out; rw [hr] at hRr
    generalize hD : turnS (b.take L) pt o = D at *
    have b4' := Lib.hid b4; have hb4' := Lib.hid hb4; have ho4' := Lib.hid ho4; have b04' := Lib.hid b04; have hbw4' := Lib.hid hbw4; have hM' := Lib.hid hM; have hRr' := Lib.hid hRr; have hr' := Lib.hid hr; have hD' := Lib.hid hD; clear b4 hb4 ho4 b04 hbw4 hM hRr hr hD
    go_wp2_with fail
    refine hM'.out.mono ?_; rintro e w5 ⟨rfl, hb5⟩; have b5 := b04'.out.late hb5; have hbw5 := hbw4'.out.trans (hb5.mono hbw4'.out.size); have ho5 := own_later ho4'.out hb5; have b35 := b4'.out.late hb5; have c0 : w5.cell? ⟨g3, 0, none⟩ = some (.int .i64 ty) := b35.cell rfl; have c1 : w5.cell? ⟨g3, 1, none⟩ = some (.int .i64 cnt) := b35.cell rfl; have c2 : w5.cell? ⟨g3, 2, none⟩ = some (.slice a5 m5 c5) := b35.cell rfl; have p0 : w5.cell? ⟨w.heap.size, 0, none⟩ = some (.int .i64 0) := b5.cell rfl; have p1 : w5.cell? ⟨w.heap.size, 1, none⟩ = some (.int .i64 0) := b5.cell rfl; have p2 : w5.cell? ⟨w.heap.size, 2, none⟩ = some (.slice none 0 0) := b5.cell rfl; have y0 := b5.frozen 0; have y1 := b5.frozen 1; have y2 := b5.frozen 2; clear b35 hb5; have b5' := Lib.hid b5; have hbw5' := Lib.hid hbw5; have ho5' := Lib.hid ho5; clear b5 hbw5 ho5
    cases r
    · have hRr := hRr'.out
      simp only [Bool.false_eq_true, if_false] at hRr; subst hRr
      go_wp2_with fail
      refine bodyPost_ret (results_blk_tmp rfl _ _ w.heap.size 76 #[.int .i64 0, .int .i64 0, .slice none 0 0] _ rfl (b5'.out.set3 _ _ _) Tryz.underlying76 rfl (by kernel_rfl)) rfl ?_; exact ⟨0, 0, none, 0, 0, rfl, below_set3 hbw5'.out (Nat.le_refl _) _ _ _, fun d h => by cases h⟩
    · have hRr := hRr'.out
      simp only [if_true] at hRr; subst hRr
      go_wp2_with fail
      refine bodyPost_ret (results_blk_tmp rfl _ _ w.heap.size 76 #[.int .i64 ty, .int .i64 cnt, .slice a5 m5 c5] _ rfl (b5'.out.set3 _ _ _) Tryz.underlying76 rfl (by kernel_rfl)) rfl ?_
      exact ⟨ty, cnt, a5, m5, c5, rfl, below_set3 hbw5'.out (Nat.le_refl _) _ _ _, fun d h => by
        obtain rfl : D = d := by simpa using h
        exact ⟨rfl, rfl, own_mono (own_set3 (own_mono ho5'.out (Nat.le_refl W.heap.size)) h0W _ _ _) (Nat.le_of_lt h0W)⟩⟩
  · go_wp2_with fail
    have hb3 := ((Below.refl W.heap.size W).alloc (Nat.le_refl _) (.cells #[.int .i64 0, .int .i64 0, .slice none 0 0] 76)).drew; have b3 : Blk (W.alloc (.cells #[.int .i64 0, .int .i64 0, .slice none 0 0] 76)).drew W.heap.size 76 #[.int .i64 0, .int .i64 0, .slice none 0 0] := Blk.new W _ _; have hsz3 : (W.alloc (.cells #[.int .i64 0, .int .i64 0, .slice none 0 0] 76)).drew.heap.size = W.heap.size + 1 := by show (W.alloc _).heap.size = _; simp
    have HS := Lib.hid (hsurj'.out _ hb3); obtain ⟨w3, hw3⟩ : ∃ w3, (W.alloc (.cells #[.int .i64 0, .int .i64 0, .slice none 0 0] 76)).drew = w3 := ⟨_, rfl⟩; rw [hw3] at hb3 b3 hsz3 HS; rw [hw3]; clear hw3; have b3' := Lib.hid b3; have hb3' := Lib.hid hb3; clear b3 hb3
    first | refine Mid.mk ⟨HS.out, ?_⟩ | refine Mid.mk ?_
    refine held_one 11 2 (by kernel_rfl) (by kernel_rfl) ?_; simp only [pickL, List.map_cons, List.map_nil, List.getD_cons_succ, List.getD_cons_zero]
    go_wp2_with fail
    refine (hTN'.out _ (hbb'.out.trans (hb3'.out.mono hbb'.out.size))).mono ?_; rintro e w2 ⟨a5, m5, c5, rfl, ho, hb2⟩; have hb := hb3'.out.trans (hb2.mono hb3'.out.size); have HS := Lib.hid (hsurj'.out _ hb); have b3 := b3'.out.late hb2; have hog : (Value.slice a5 m5 c5).ownBlock ≠ some W.heap.size := fun hx => by have := (ho.lt _ hx).1; omega
    have ho := own_mono ho hb3'.out.size; clear b3' hb3' hsz3; have hb' := Lib.hid hb; have ho' := Lib.hid ho; have hb2' := Lib.hid hb2; have b3' := Lib.hid b3; clear hb ho hb2 b3
    go_wp2_with fail
    first | refine Mid.mk ⟨HS.out, ?_⟩ | refine Mid.mk ?_
    refine held_take [12] 1 (by kernel_rfl) (fun d _ _ _ _ h => by cases d <;> exact h) (by kernel_rfl) (by kernel_rfl) (by kernel_rfl) HS.out ?_; simp only [pickL, List.map_cons, List.map_nil, List.getD_cons_succ, List.getD_cons_zero]
    iterate 1 (go_big_quiet_step (fail))
    refine wpQuiet_nil ?_; refine held_one 14 0 (by kernel_rfl) (by kernel_rfl) ?_; simp only [pickL, List.map_cons, List.map_nil, List.getD_cons_succ, List.getD_cons_zero]; obtain ⟨g3, hg3⟩ : ∃ g, W.heap.size = g := ⟨_, rfl⟩; have h23 : W.heap.size ≤ g3 := Nat.le_of_eq hg3; have hb3' := hb'; have ho3' := ho'

    rw [hg3]; rw [hg3] at hog b3'; obtain ⟨w3, hw3⟩ : ∃ w3, w2 = w3 := ⟨_, rfl⟩; rw [hw3] at b3' hb3' ho3'; rw [hw3]; clear hw3 hg3; have p0 : w3.cell? ⟨g3, 0, none⟩ = some (.int .i64 0) := b3'.out.cell rfl; have p1 : w3.cell? ⟨g3, 1, none⟩ = some (.int .i64 0) := b3'.out.cell rfl; have p2 : w3.cell? ⟨g3, 2, none⟩ = some (.slice none 0 0) := b3'.out.cell rfl; have y0 := b3'.out.frozen 0; have y1 := b3'.out.frozen 1; have y2 := b3'.out.frozen 2
    go_wp2_with fail
    have b4 := b3'.out.set3 (.int .i64 ty) (.int .i64 cnt) (.slice a5 m5 c5); have hb4 := below_set3 hb3'.out h23 (.int .i64 ty) (.int .i64 cnt) (.slice a5 m5 c5); have ho4 := own_but ho3'.out ((((But.refl g3 w3).set 0 (.int .i64 ty)).set 1 (.int .i64 cnt)).set 2 (.slice a5 m5 c5)) hog; have HS := Lib.hid (hsurj'.out _ hb4); refine Mid.mk ⟨HS.out, ?_⟩; refine held_last (by kernel_rfl) ?_; clear p0 p1 p2 y0 y1 y2 b3' hb3' ho3'
    generalize (((w3.setCell ⟨g3, 0, none⟩ (.int .i64 ty)).setCell ⟨g3, 1, none⟩ (.int .i64 cnt)).setCell ⟨g3, 2, none⟩ (.slice a5 m5 c5)) = w4 at *
    have c0 : w4.cell? ⟨g3, 0, none⟩ = some (.int .i64 ty) := b4.cell rfl; have c1 : w4.cell? ⟨g3, 1, none⟩ = some (.int .i64 cnt) := b4.cell rfl; have c2 : w4.cell? ⟨g3, 2, none⟩ = some (.slice a5 m5 c5) := b4.cell rfl; have b04 := b0'.out.late hb4; have hbw4 := hbb'.out.trans (hb4.mono hbb'.out.size); have hM := may_any ty cnt a5 m5 c5 (turnS (b.take L) pt o) w4 (Sl.of_own ho4).1 (byt_turn (hby'.out.take _) _ _); have hW4 := hb4.size; have h0W := b0'.out.lt; clear hb2' ho' hb'; obtain ⟨r, hr⟩ : ∃ r, mayS ty cnt (turnS (b.take L) pt o) = r := ⟨_, rfl⟩; rw [hr] at hM; have hRr := hRR'.out; rw [hr] at hRr
    generalize hD : turnS (b.take L) pt o = D at *
    have b4' := Lib.hid b4; have hb4' := Lib.hid hb4; have ho4' := Lib.hid ho4; have b04' := Lib.hid b04; have hbw4' := Lib.hid hbw4; have hM' := Lib.hid hM; have hRr' := Lib.hid hRr; have hr' := Lib.hid hr; have hD' := Lib.hid hD; clear b4 hb4 ho4 b04 hbw4 hM hRr hr hD
    go_wp2_with fail
    refine hM'.out.mono ?_; rintro e w5 ⟨rfl, hb5⟩; have b5 := b04'.out.late hb5; have hbw5 := hbw4'.out.trans (hb5.mono hbw4'.out.size); have ho5 := own_later ho4'.out hb5; have b35 := b4'.out.late hb5; have c0 : w5.cell? ⟨g3, 0, none⟩ = some (.int .i64 ty) := b35.cell rfl; have c1 : w5.cell? ⟨g3, 1, none⟩ = some (.int .i64 cnt) := b35.cell rfl; have c2 : w5.cell? ⟨g3, 2, none⟩ = some (.slice a5 m5 c5) := b35.cell rfl; have p0 : w5.cell? ⟨w.heap.size, 0, none⟩ = some (.int .i64 0) := b5.cell rfl; have p1 : w5.cell? ⟨w.heap.size, 1, none⟩ = some (.int .i64 0) := b5.cell rfl; have p2 : w5.cell? ⟨w.heap.size, 2, none⟩ = some (.slice none 0 0) := b5.cell rfl; have y0 := b5.frozen 0; have y1 := b5.frozen 1; have y2 := b5.frozen 2; clear b35 hb5; have b5' := Lib.hid b5; have hbw5' := Lib.hid hbw5; have ho5' := Lib.hid ho5; clear b5 hbw5 ho5
    cases r
    · have hRr := hRr'.out
      simp only [Bool.false_eq_true, if_false] at hRr; subst hRr
      go_wp2_with fail
      refine bodyPost_ret (results_blk_tmp rfl _ _ w.heap.size 76 #[.int .i64 0, .int .i64 0, .slice none 0 0] _ rfl (b5'.out.set3 _ _ _) Tryz.underlying76 rfl (by kernel_rfl)) rfl ?_; exact ⟨0, 0, none, 0, 0, rfl, below_set3 hbw5'.out (Nat.le_refl _) _ _ _, fun d h => by cases h⟩
    · have hRr := hRr'.out
      simp only [if_true] at hRr; subst hRr
      go_wp2_with fail
      refine bodyPost_ret (results_blk_tmp rfl _ _ w.heap.size 76 #[.int .i64 ty, .int .i64 cnt, .slice a5 m5 c5] _ rfl (b5'.out.set3 _ _ _) Tryz.underlying76 rfl (by kernel_rfl)) rfl ?_
      exact ⟨ty, cnt, a5, m5, c5, rfl, below_set3 hbw5'.out (Nat.le_refl _) _ _ _, fun d h => by
        obtain rfl : D = d := by simpa using h
        exact ⟨rfl, rfl, own_mono (own_set3 (own_mono ho5'.out (Nat.le_refl W.heap.size)) h0W _ _ _) (Nat.le_of_lt h0W)⟩⟩
end Go.Proofs.YtilennmeiaehnaaGreat

namespace Go.Proofs.YtilennmeiaehnaaGreat
open Go.RowKit Tt
set_option linter.unusedVariables false
set_option linter.unusedSimpArgs false

theorem snum_any (a : Option Addr) (n c : Nat) (z : List Int) (o at_ size : Int) (w : World) (hs : Sl w a n c 1 (ints .u8 z)) (hb : Byt z) :
    Calls Tryz.prog 150 #[.agg #[.slice a n c, .int .i64 o], .int .i64 at_, .int .i64 size] w fun e w' => e = .returned (.tuple #[.int .i64 (getV z at_ size o), .bool (getB n at_ size o)]) ∧ Below w.heap.size w w' := by
  have hG := fun W (h : Below w.heap.size w W) => get_any a n c z at_ size o W (hs.mono h) hb; have hG' := Lib.hid hG; clear hG
  go_enter Tryz.func150, Tryz.ntmps150
  go_wp2_with fail
  have hb1 := (Below.refl w.heap.size w).alloc (Nat.le_refl _) (.cells #[.slice a n c, .int .i64 o] 171); refine (hG'.out _ hb1).mono ?_; rintro e w2 ⟨rfl, hb2⟩; have hb := hb1.trans (hb2.mono hb1.size); clear hb2 hb1; have hb' := Lib.hid hb; clear hb
  go_wp2_with fail
  go_ret2
  exact ⟨rfl, hb'.out⟩
set_option maxRecDepth 20000 in
set_option maxHeartbeats 4000000 in
theorem next_any (g : Nat) (a : Option Addr) (n c : Nat) (z : List Int) (o at_ size : Int) (ok : Bool) (w : World) (hr : Blk w g 173 #[.slice a n c, .int .i64 o, .int .i64 at_, .bool ok]) (hs : Sl w a n c 1 (ints .u8 z)) (hb : Byt z)
    (h0 : 0 ≤ at_) (h1 : at_ ≤ 4611686018427387904) (h2 : 0 ≤ size) (h3 : size ≤ 8) :
    Calls Tryz.prog 113 #[.pointer (some ⟨g, 0, none⟩), .int .i64 size] w fun e w' => e = .returned (.int .i64 (getV z at_ size o)) ∧ Blk w' g 173 #[.slice a n c, .int .i64 o, .int .i64 (at_ + size), .bool (ok && getB n at_ size o)] ∧ But g w w' := by
  obtain ⟨Ty, f, hne, hbel, hsurj⟩ := later_worlds w; have q0 : ∀ s, (f s).cell? ⟨g, 0, none⟩ = some (.slice a n c) := fun s => (Blk.late hr (hbel s)).cell rfl; have q1 : ∀ s, (f s).cell? ⟨g, 1, none⟩ = some (.int .i64 o) := fun s => (Blk.late hr (hbel s)).cell rfl; have q2 : ∀ s, (f s).cell? ⟨g, 2, none⟩ = some (.int .i64 at_) := fun s => (Blk.late hr (hbel s)).cell rfl; have HS := Lib.hid (hsurj _ ((Below.refl _ _).drew)); have HD := Lib.hid ((Below.refl w.heap.size w).drew); have hw : IntKind.i64.wrap (at_ + size) = at_ + size := by rw [IntKind.wrap_i64]; omega
  have hN := fun W (h : Below w.heap.size w W) => snum_any a n c z o at_ size W (hs.mono h) hb; obtain ⟨v, hv⟩ : ∃ v, getV z at_ size o = v := ⟨_, rfl⟩; obtain ⟨b, hbb⟩ : ∃ v, getB n at_ size o = v := ⟨_, rfl⟩; rw [hv, hbb] at hN; rw [hv, hbb]; have hr' := Lib.hid hr; have hs' := Lib.hid hs; have hb' := Lib.hid hb; have hbel' := Lib.hid hbel; have hsurj' := Lib.hid hsurj; have hN' := Lib.hid hN; have hv' := Lib.hid hv; have hbb' := Lib.hid hbb; clear hr hs hb hbel hsurj hN hv hbb
  go_enter Tryz.func113, Tryz.ntmps113
  go_wp2_with fail
  refine held_begin (S := fun W => ∃ s, W = f s) (by kernel_rfl) 15 rfl ?_; refine held_take [0, 1, 2, 3, 4, 5, 6, 7, 8] 6 (by kernel_rfl) (fun d _ _ _ _ h => by cases d <;> exact h) (by kernel_rfl) (by kernel_rfl) (by kernel_rfl) HS.out ?_; simp only [pickL, List.map_cons, List.map_nil, List.getD_cons_succ, List.getD_cons_zero]
  iterate 9 (go_big_quiet_step (fail))
  refine wpQuiet_nil ?_; refine held_one 9 5 (by kernel_rfl) (by kernel_rfl) ?_; simp only [pickL, List.map_cons, List.map_nil, List.getD_cons_succ, List.getD_cons_zero]
  go_wp2_with fail
  refine (hN'.out _ HD.out).mono ?_; rintro e w2 ⟨rfl, hb2⟩; have hbw := HD.out.trans (hb2.mono HD.out.size); have HS := Lib.hid (hsurj'.out _ hbw); have b2 := hr'.out.late hbw; clear hb2; have hbw' := Lib.hid hbw; have b2' := Lib.hid b2; clear hbw b2
  go_wp2_with fail
  first | refine Mid.mk ⟨HS.out, ?_⟩ | refine Mid.mk ?_
  refine held_take [10, 11, 12, 13, 14] 0 (by kernel_rfl) (fun d _ _ _ _ h => by cases d <;> exact h) (by kernel_rfl) (by kernel_rfl) (by kernel_rfl) HS.out ?_; simp only [pickL, List.map_cons, List.map_nil, List.getD_cons_succ, List.getD_cons_zero]
  iterate 5 (go_big_quiet_step (fail))
  refine wpQuiet_nil ?_; refine held_last (by kernel_rfl) ?_; have p0 : w2.cell? ⟨g, 0, none⟩ = some (.slice a n c) := b2'.out.cell rfl; have p2 : w2.cell? ⟨g, 2, none⟩ = some (.int .i64 at_) := b2'.out.cell rfl; have p3 : w2.cell? ⟨g, 3, none⟩ = some (.bool ok) := b2'.out.cell rfl; have y2 := b2'.out.frozen 2; have y3 := b2'.out.frozen 3; have b3 := (b2'.out.set 2 (.int .i64 (at_ + size))).set 3 (.bool (ok && b)); have hbt := ((But.of_below (b := g) hbw'.out).set 2 (.int .i64 (at_ + size))).set 3 (.bool (ok && b)); have b3' := Lib.hid b3; have hbt' := Lib.hid hbt; clear b3 hbt; clear q0 q1 q2
  cases ok
  · simp only [Bool.false_and] at *
    go_wp2_with fail
    go_ret
    exact ⟨rfl, b3'.out, hbt'.out⟩
  · simp only [Bool.true_and] at *
    go_wp2_with fail
    go_ret
    exact ⟨rfl, b3'.out, hbt'.out⟩
abbrev Ent := Int × Int × Int × Int
def entC (x : Ent) : List Value := [.int .i64 x.1, .int .i64 x.2.1, .int .i64 x.2.2.1, .int .i64 x.2.2.2]
def entV (x : Ent) : Value := .agg #[.int .i64 x.1, .int .i64 x.2.1, .int .i64 x.2.2.1, .int .i64 x.2.2.2]
theorem entC_len (x : Ent) : (entC x).length = 4 := rfl
def entAt (z : List Int) (o p : Int) : Ent := (getV z p 2 o, getV z (p + 2) 2 o, getV z (p + 4) 4 o, getV z (p + 8) 4 o)
theorem getB_in {n : Nat} {at_ size o : Int} (hs : size = 1 ∨ size = 2 ∨ size = 4) (ho : o = 1 ∨ o = 2) (h0 : 0 ≤ at_) (h1 : at_ + size ≤ n) : getB n at_ size o = true := by
  unfold getB mayB
  simp
  omega
set_option maxRecDepth 20000 in
set_option maxHeartbeats 4000000 in
theorem eread_any (a : Option Addr) (n c : Nat) (z : List Int) (o p : Int) (w : World) (hs : Sl w a n c 1 (ints .u8 z)) (hb : Byt z) (ho : o = 1 ∨ o = 2) (h0 : 0 ≤ p) (h1 : p + 12 ≤ n) (hn : n ≤ 1000000000) :
    Calls Tryz.prog 61 #[.slice a n c, .int .i64 p, .int .i64 o] w fun e w' => e = .returned (.tuple #[entV (entAt z o p), .bool true]) ∧ Below w.heap.size w w' := by
  have hle := hs.le; have hmx := hs.max; have hR := fun W => room_any p 12 n W (by omega) (by omega); rw [show roomB p 12 n = true by unfold roomB; simp; omega] at hR; have g1 := getB_in (n := n) (at_ := p) (size := 2) (by omega) ho h0 (by omega); have g2 := getB_in (n := n) (at_ := p + 2) (size := 2) (by omega) ho (by omega) (by omega); have g3 := getB_in (n := n) (at_ := p + 4) (size := 4) (by omega) ho (by omega) (by omega); have g4 := getB_in (n := n) (at_ := p + 8) (size := 4) (by omega) ho (by omega) (by omega); unfold entV entAt; simp only; obtain ⟨v1, hv1⟩ : ∃ v, getV z p 2 o = v := ⟨_, rfl⟩; obtain ⟨v2, hv2⟩ : ∃ v, getV z (p + 2) 2 o = v := ⟨_, rfl⟩; obtain ⟨v3, hv3⟩ : ∃ v, getV z (p + 4) 4 o = v := ⟨_, rfl⟩; obtain ⟨v4, hv4⟩ : ∃ v, getV z (p + 8) 4 o = v := ⟨_, rfl⟩; rw [hv1, hv2, hv3, hv4]; obtain ⟨W, hW⟩ : ∃ W, (w.alloc (.cells #[.int .i64 0, .int .i64 0, .int .i64 0, .int .i64 0] 62)).alloc (.cells #[.slice a n c, .int .i64 o, .int .i64 p, .bool true] 173) = W := ⟨_, rfl⟩; have b0 : Blk W w.heap.size 62 #[.int .i64 0, .int .i64 0, .int .i64 0, .int .i64 0] := by rw [← hW]; exact (Blk.new w _ _).alloc _
  have hrd : Blk W (w.heap.size + 1) 173 #[.slice a n c, .int .i64 o, .int .i64 p, .bool true] := by rw [← hW]; exact heap_new' _ _ (by simp)
  have hbW : Below w.heap.size w W := by rw [← hW]; exact (((Below.refl w.heap.size w).alloc (Nat.le_refl _) _).alloc (by simp) _)
  have hsW := hs.mono hbW; have hltW := hrd.lt; have HN1 := next_any (w.heap.size + 1) a n c z o p 2 true W hrd hsW hb h0 (by omega) (by omega) (by omega); have HN2 := fun W2 h hs2 => next_any (w.heap.size + 1) a n c z o (p + 2) 2 true W2 h hs2 hb (by omega) (by omega) (by omega) (by omega); have HN3 := fun W2 h hs2 => next_any (w.heap.size + 1) a n c z o (p + 4) 4 true W2 h hs2 hb (by omega) (by omega) (by omega) (by omega); have HN4 := fun W2 h hs2 => next_any (w.heap.size + 1) a n c z o (p + 8) 4 true W2 h hs2 hb (by omega) (by omega) (by omega) (by omega); rw [hv1, g1] at HN1; rw [hv2, g2] at HN2; rw [hv3, g3] at HN3; rw [hv4, g4] at HN4; simp only [Bool.and_self, Int.add_assoc, Int.reduceAdd] at HN1 HN2 HN3 HN4; clear g1 g2 g3 g4 hv1 hv2 hv3 hv4; have hs' := Lib.hid hs; have hb' := Lib.hid hb; have hR' := Lib.hid hR; have b0' := Lib.hid b0; have hrd' := Lib.hid hrd; have hbW' := Lib.hid hbW; have hsW' := Lib.hid hsW; have HN1' := Lib.hid HN1; have HN2' := Lib.hid HN2; have HN3' := Lib.hid HN3; have HN4' := Lib.hid HN4; clear hs hb hR b0 hrd hbW hsW HN1 HN2 HN3 HN4
  go_enter Tryz.func61, Tryz.ntmps61
  go_wp2_with (go_at_call 112; refine (hR'.out _).mono ?_; rintro e w1 ⟨rfl, rfl⟩)
  clear hW; refine HN1'.out.mono ?_; rintro e W1 ⟨rfl, hr1, hbt1⟩; have hB1 := hbW'.out.trans (hbt1.below (Nat.le_succ w.heap.size) hbW'.out.size); have b01 := b0'.out.but hbt1 (by omega); clear hbt1; have hr1' := Lib.hid hr1; have hB1' := Lib.hid hB1; have b01' := Lib.hid b01; clear hr1 hB1 b01
  go_wp2_with fail
  refine (HN2'.out _ hr1'.out (hs'.out.mono hB1'.out)).mono ?_; rintro e W2 ⟨rfl, hr2, hbt2⟩; have hB2 := hB1'.out.trans (hbt2.below (Nat.le_succ w.heap.size) hB1'.out.size); have b02 := b01'.out.but hbt2 (by omega); clear hbt2 hr1' hB1' b01'; have hr2' := Lib.hid hr2; have hB2' := Lib.hid hB2; have b02' := Lib.hid b02; clear hr2 hB2 b02
  go_wp2_with fail
  refine (HN3'.out _ hr2'.out (hs'.out.mono hB2'.out)).mono ?_; rintro e W3 ⟨rfl, hr3, hbt3⟩; have hB3 := hB2'.out.trans (hbt3.below (Nat.le_succ w.heap.size) hB2'.out.size); have b03 := b02'.out.but hbt3 (by omega); clear hbt3 hr2' hB2' b02'; have hr3' := Lib.hid hr3; have hB3' := Lib.hid hB3; have b03' := Lib.hid b03; clear hr3 hB3 b03
  go_wp2_with fail
  refine (HN4'.out _ hr3'.out (hs'.out.mono hB3'.out)).mono ?_; rintro e W4 ⟨rfl, hr4, hbt4⟩; have hB4 := hB3'.out.trans (hbt4.below (Nat.le_succ w.heap.size) hB3'.out.size); have b04 := b03'.out.but hbt4 (by omega); clear hbt4 hr3' hB3' b03'
  go_upto_region 5 with fail
  have b05 := b04.alloc (.cells #[.int .i64 v1, .int .i64 v2, .int .i64 v3, .int .i64 v4] 62); have hr5 := hr4.alloc (.cells #[.int .i64 v1, .int .i64 v2, .int .i64 v3, .int .i64 v4] 62); have hn5 := Blk.new W4 62 #[.int .i64 v1, .int .i64 v2, .int .i64 v3, .int .i64 v4]; have hB5 := hB4.alloc hB4.size (.cells #[.int .i64 v1, .int .i64 v2, .int .i64 v3, .int .i64 v4] 62)
  generalize W4.alloc (.cells #[.int .i64 v1, .int .i64 v2, .int .i64 v3, .int .i64 v4] 62) = W5 at *
  generalize W4.heap.size = g5 at *
  have c2 : W5.cell? ⟨w.heap.size + 1, 3, none⟩ = some (.bool true) := hr5.cell rfl; have d0 : W5.cell? ⟨g5, 0, none⟩ = some (.int .i64 v1) := hn5.cell rfl; have d1 : W5.cell? ⟨g5, 1, none⟩ = some (.int .i64 v2) := hn5.cell rfl; have d2 : W5.cell? ⟨g5, 2, none⟩ = some (.int .i64 v3) := hn5.cell rfl; have d3 : W5.cell? ⟨g5, 3, none⟩ = some (.int .i64 v4) := hn5.cell rfl; have p0 : W5.cell? ⟨w.heap.size, 0, none⟩ = some (.int .i64 0) := b05.cell rfl; have p1 : W5.cell? ⟨w.heap.size, 1, none⟩ = some (.int .i64 0) := b05.cell rfl; have p2 : W5.cell? ⟨w.heap.size, 2, none⟩ = some (.int .i64 0) := b05.cell rfl; have p3 : W5.cell? ⟨w.heap.size, 3, none⟩ = some (.int .i64 0) := b05.cell rfl; have y0 := b05.frozen 0; have y1 := b05.frozen 1; have y2 := b05.frozen 2; have y3 := b05.frozen 3; clear hr4 hB4 b04 hr5 hn5; have hB5' := Lib.hid hB5; have b05' := Lib.hid b05; clear hB5 b05
  go_wp2_with fail
  refine bodyPost_ret (results_blk_tmp rfl _ _ w.heap.size 62 #[.int .i64 v1, .int .i64 v2, .int .i64 v3, .int .i64 v4] _ rfl (b05'.out.set4 _ _ _ _) Tryz.underlying62 rfl (by kernel_rfl)) rfl ?_; exact ⟨rfl, below_set4 hB5'.out (Nat.le_refl _) _ _ _ _⟩
end Go.Proofs.YtilennmeiaehnaaGreat
