/- Chapter 18: Of of the program. -/
import Derived.Test.YtceclmpmpldmlaaGreatCs04
import Derived.Test.YtceclmpmpldmlaaGreatCs05
namespace Go.Proofs.YtceclmpmpldmlaaGreat
open Go.RowKit Tt
set_option linter.unusedVariables false
set_option linter.unusedSimpArgs false

/-- a value of a type and a count out of bytes -/
def ofS (ty cnt : Int) (b : List Int) (o : Int) : Option (List Int) :=
  if (kindS ty).1 = 0 ∨ cnt < 1 ∨ 65536 < cnt ∨ (b.length : Int) < cnt * (kindS ty).1 then none
  else if mayS ty cnt (turnS (b.take (cnt * (kindS ty).1).toNat) (kindS ty).2.1 o) = true then some (turnS (b.take (cnt * (kindS ty).1).toNat) (kindS ty).2.1 o) else none
theorem ofS_len {ty cnt : Int} {b d : List Int} {o : Int} (h : ofS ty cnt b o = some d) : (d.length : Int) = cnt * (kindS ty).1 := by
  unfold ofS at h
  split at h
  · cases h
  · split at h
    · rename_i h1 h2
      obtain rfl : _ = d := by simpa using h
      unfold mayS at h2
      simp at h2
      exact h2.1.2
    · cases h
theorem ofS_no {ty cnt : Int} {b : List Int} {o : Int} (h : (kindS ty).1 = 0 ∨ cnt < 1 ∨ 65536 < cnt ∨ (b.length : Int) < cnt * (kindS ty).1) : ofS ty cnt b o = none := by
  unfold ofS; rw [if_pos h]
theorem ofS_yes {ty cnt : Int} {b : List Int} {o : Int} (h : ¬ ((kindS ty).1 = 0 ∨ cnt < 1 ∨ 65536 < cnt ∨ (b.length : Int) < cnt * (kindS ty).1)) :
    ofS ty cnt b o = if mayS ty cnt (turnS (b.take (cnt * (kindS ty).1).toNat) (kindS ty).2.1 o) = true then some (turnS (b.take (cnt * (kindS ty).1).toNat) (kindS ty).2.1 o) else none := by
  unfold ofS; rw [if_neg h]
abbrev OfPost (w : World) (ty cnt : Int) (R : Option (List Int)) (e : Ending) (w' : World) : Prop :=
  ∃ ty' cnt' a2 m c2, e = .returned (.tuple #[.agg #[.int .i64 ty', .int .i64 cnt', .slice a2 m c2], .bool R.isSome]) ∧ Below w.heap.size w w' ∧
    ∀ d, R = some d → ty' = ty ∧ cnt' = cnt ∧ w'.ownsRow w.heap.size 5 1 (.slice a2 m c2) m (ints .u8 d)
set_option maxRecDepth 20000 in
set_option maxHeartbeats 4000000 in
theorem of_any (ty cnt : Int) (a : Option Addr) (n c : Nat) (b : List Int) (o : Int) (w : World) (hs : Sl w a n c 1 (ints .u8 b)) (hby : Byt b) :
    Calls Tryz.prog 54 #[.int .i64 ty, .int .i64 cnt, .slice a n c, .int .i64 o] w (OfPost w ty cnt (ofS ty cnt b o)) := by
  have hbl := hs.ilen; have hle := hs.le; have hmx := hs.max; have hsz := kindS_size ty; have hK := kind_any ty; have hno := ofS_no (ty := ty) (cnt := cnt) (b := b) (o := o); have hyes := ofS_yes (ty := ty) (cnt := cnt) (b := b) (o := o)
  generalize ofS ty cnt b o = R at *
  obtain ⟨sz, hszz⟩ : ∃ s, (kindS ty).1 = s := ⟨_, rfl⟩; obtain ⟨pt, hptt⟩ : ∃ s, (kindS ty).2.1 = s := ⟨_, rfl⟩; rw [hszz] at hsz hK hno hyes; rw [hptt] at hK hyes
  generalize (kindS ty).2.2 = is at *
  clear hszz hptt; rw [hbl] at hno hyes; have hs' := Lib.hid hs; have hby' := Lib.hid hby
  have hbl' := Lib.hid hbl; have hK' := Lib.hid hK; have hyes' := Lib.hid hyes; have hno' := Lib.hid hno; clear hs hby hbl hK hyes hno
  go_enter Tryz.func54, Tryz.ntmps54
  go_wp2_with fail
  refine (hK'.out _).mono ?_; rintro e w1 ⟨rfl, hb1⟩; have b0 : Blk w1 w.heap.size 72 #[.int .i64 0, .int .i64 0, .slice none 0 0] := Blk.late (Blk.new w _ _) hb1; have hbb := ((Below.refl w.heap.size w).alloc (Nat.le_refl _) (.cells #[.int .i64 0, .int .i64 0, .slice none 0 0] 72)).trans (hb1.mono (by simp)); have b0lt := b0.lt; clear hb1
  go_upto_region 2 with fail
  have b0 := b0.alloc (.cells #[.int .i64 sz, .int .i64 pt, .int .i64 is] 185); have hbb := hbb.alloc hbb.size (.cells #[.int .i64 sz, .int .i64 pt, .int .i64 is] 185); have b1 : Blk (w1.alloc (.cells #[.int .i64 sz, .int .i64 pt, .int .i64 is] 185)) w1.heap.size 185 #[.int .i64 sz, .int .i64 pt, .int .i64 is] := Blk.new _ _ _; have h01 : w.heap.size < w1.heap.size := b0lt
  generalize (w1.alloc (.cells #[.int .i64 sz, .int .i64 pt, .int .i64 is] 185)) = W at *
  obtain ⟨g1, hg1⟩ : ∃ g, w1.heap.size = g := ⟨_, rfl⟩; rw [hg1] at b1 h01; rw [hg1]; have c0 : W.cell? ⟨g1, 0, none⟩ = some (.int .i64 sz) := b1.cell rfl; have p0 : W.cell? ⟨w.heap.size, 0, none⟩ = some (.int .i64 0) := b0.cell rfl; have p1 : W.cell? ⟨w.heap.size, 1, none⟩ = some (.int .i64 0) := b0.cell rfl; have p2 : W.cell? ⟨w.heap.size, 2, none⟩ = some (.slice none 0 0) := b0.cell rfl; have y0 := b0.frozen 0; have y1 := b0.frozen 1; have y2 := b0.frozen 2; clear hg1; have b0' := Lib.hid b0; have hbb' := Lib.hid hbb; have b1' := Lib.hid b1; clear b0 hbb b1
  by_cases t1 : sz = 0
  · subst t1
    obtain rfl := hno'.out (.inl rfl)
    go_wp2
    refine bodyPost_ret (results_blk_tmp rfl _ _ w.heap.size 72 #[.int .i64 0, .int .i64 0, .slice none 0 0] _ rfl (b0'.out.set3 _ _ _) Tryz.underlying72 rfl (by kernel_rfl)) rfl ?_; exact ⟨0, 0, none, 0, 0, rfl, below_set3 hbb'.out (Nat.le_refl _) _ _ _, fun d h => by cases h⟩
  have f1 : (sz == 0) = false := by simp [t1]
  by_cases t2 : cnt < 1
  · obtain rfl := hno'.out (.inr (.inl t2))
    have f2 : decide (cnt < 1) = true := by simp; omega
    go_wp2
    refine bodyPost_ret (results_blk_tmp rfl _ _ w.heap.size 72 #[.int .i64 0, .int .i64 0, .slice none 0 0] _ rfl (b0'.out.set3 _ _ _) Tryz.underlying72 rfl (by kernel_rfl)) rfl ?_; exact ⟨0, 0, none, 0, 0, rfl, below_set3 hbb'.out (Nat.le_refl _) _ _ _, fun d h => by cases h⟩
  have f2 : decide (cnt < 1) = false := by simp; omega
  by_cases t3 : 65536 < cnt
  · obtain rfl := hno'.out (.inr (.inr (.inl t3)))
    have f3 : decide (65536 < cnt) = true := by simp; omega
    go_wp2
    refine bodyPost_ret (results_blk_tmp rfl _ _ w.heap.size 72 #[.int .i64 0, .int .i64 0, .slice none 0 0] _ rfl (b0'.out.set3 _ _ _) Tryz.underlying72 rfl (by kernel_rfl)) rfl ?_; exact ⟨0, 0, none, 0, 0, rfl, below_set3 hbb'.out (Nat.le_refl _) _ _ _, fun d h => by cases h⟩
  have f3 : decide (65536 < cnt) = false := by simp; omega
  obtain ⟨L, hL⟩ : ∃ L : Nat, cnt * sz = L := by
    have := Int.mul_nonneg (show 0 ≤ cnt by omega) hsz.1; exact ⟨(cnt * sz).toNat, by omega⟩
  have hL2 : (L : Int) ≤ 65536 * 8 := by rw [← hL]; exact Int.mul_le_mul (by omega) (by omega) (by omega) (by omega)
  have hw : IntKind.i64.wrap (cnt * sz) = L := by rw [IntKind.wrap_i64, hL]; omega
  by_cases t4 : (n : Int) < cnt * sz
  · obtain rfl := hno'.out (.inr (.inr (.inr t4)))
    rw [hL] at t4; have f4 : decide ((n : Int) < L) = true := by simp; omega
    go_wp2
    refine bodyPost_ret (results_blk_tmp rfl _ _ w.heap.size 72 #[.int .i64 0, .int .i64 0, .slice none 0 0] _ rfl (b0'.out.set3 _ _ _) Tryz.underlying72 rfl (by kernel_rfl)) rfl ?_; exact ⟨0, 0, none, 0, 0, rfl, below_set3 hbb'.out (Nat.le_refl _) _ _ _, fun d h => by cases h⟩
  have hyy := hyes'.out (by intro h; rcases h with h | h | h | h <;> contradiction); have hRR : R = if mayS ty cnt (turnS (b.take L) pt o) = true then some (turnS (b.take L) pt o) else none := by rw [hyy, hL]; rfl
  rw [hL] at t4; have f4 : decide ((n : Int) < L) = false := by simp; omega
  obtain ⟨a2, hsl, hs2, hin2⟩ := sub_h (P := Tryz.prog) (T := 24) (E := 5) (sz := 1) Tryz.underlying24 (fun W => by kernel_rfl) hs'.out (L : Int) (by omega) (by omega) L rfl; rw [Nat.mul_one, show (ints .u8 b).take L = ints .u8 (b.take L) by simp [ints]] at hs2; obtain ⟨Ty, f, hne, hbel, hsurj⟩ := later_worlds W; have q0 : ∀ s, (f s).cell? ⟨g1, 0, none⟩ = some (.int .i64 sz) := fun s => (Blk.late b1'.out (hbel s)).cell rfl; have q1 : ∀ s, (f s).cell? ⟨g1, 1, none⟩ = some (.int .i64 pt) := fun s => (Blk.late b1'.out (hbel s)).cell rfl; have HS := Lib.hid (hsurj _ ((Below.refl _ _).drew)); have HD := Lib.hid ((Below.refl W.heap.size W).drew); have hLn : (L : Int) ≤ n := by omega
  have hTN := fun W' (h : Below w.heap.size w W') => turn_any a2 L c (b.take L) pt o W' (hs2.mono h) (by omega); clear hyy t1 t2 t3 p0 p1 p2 y0 y1 y2; have hbel' := Lib.hid hbel; have hsurj' := Lib.hid hsurj; have hs2' := Lib.hid hs2; have hin2' := Lib.hid hin2; have hRR' := Lib.hid hRR; have hTN' := Lib.hid hTN; clear hbel hsurj hs2 hin2 hRR hTN
  go_wp2_with fail
  clear c0; refine held_begin (S := fun W => ∃ s, W = f s) (by kernel_rfl) 15 rfl ?_; refine held_take [0, 1, 2, 3, 4, 5, 6, 7, 8, 9, 10] 4 (by kernel_rfl) (fun d _ _ _ _ h => by cases d <;> exact h) (by kernel_rfl) (by kernel_rfl) (by kernel_rfl) HS.out ?_; simp only [pickL, List.map_cons, List.map_nil, List.getD_cons_succ, List.getD_cons_zero]
  iterate 11 (go_big_quiet_step (fail))
  refine wpQuiet_nil ?_; refine held_two 11 13 3 (by kernel_rfl) (by kernel_rfl) ?_ ?_
  all_goals simp only [pickL, List.map_cons, List.map_nil, List.getD_cons_succ, List.getD_cons_zero]
  · go_wp2_with fail
    refine (hTN'.out _ (hbb'.out.trans (HD.out.mono hbb'.out.size))).mono ?_; rintro e w2 ⟨a5, m5, c5, rfl, ho, hb2⟩; have hb := HD.out.trans (hb2.mono HD.out.size); have HS := Lib.hid (hsurj'.out _ hb); have hb' := Lib.hid hb; have ho' := Lib.hid ho; have hb2' := Lib.hid hb2; clear hb ho hb2
    go_wp2_with fail
    first | refine Mid.mk ⟨HS.out, ?_⟩ | refine Mid.mk ?_
    refine held_take [12] 2 (by kernel_rfl) (fun d _ _ _ _ h => by cases d <;> exact h) (by kernel_rfl) (by kernel_rfl) (by kernel_rfl) HS.out ?_; simp only [pickL, List.map_cons, List.map_nil, List.getD_cons_succ, List.getD_cons_zero]
    iterate 1 (go_big_quiet_step (fail))
    refine wpQuiet_nil ?_; refine held_one 13 1 (by kernel_rfl) (by kernel_rfl) ?_; simp only [pickL, List.map_cons, List.map_nil, List.getD_cons_succ, List.getD_cons_zero]
    go_wp2_with fail
    have ho3 := own_later ho'.out ((Below.refl w2.heap.size w2).alloc (Nat.le_refl _) (.cells #[.int .i64 0, .int .i64 0, .slice none 0 0] 72)); have hb3 := hb'.out.alloc hb'.out.size (.cells #[.int .i64 0, .int .i64 0, .slice none 0 0] 72); have b3 : Blk (w2.alloc (.cells #[.int .i64 0, .int .i64 0, .slice none 0 0] 72)) w2.heap.size 72 #[.int .i64 0, .int .i64 0, .slice none 0 0] := Blk.new _ _ _; have h23 : W.heap.size ≤ w2.heap.size := hb'.out.size; have hog : (Value.slice a5 m5 c5).ownBlock ≠ some w2.heap.size := fun hx => by have := (ho'.out.lt _ hx).2; omega
    have HS := Lib.hid (hsurj'.out _ hb3); obtain ⟨g3, hg3⟩ : ∃ g, w2.heap.size = g := ⟨_, rfl⟩
    generalize (w2.alloc (.cells #[.int .i64 0, .int .i64 0, .slice none 0 0] 72)) = w3 at *
    rw [hg3] at b3 h23 hog; rw [hg3]; have ho3' := Lib.hid ho3; have hb3' := Lib.hid hb3; have b3' := Lib.hid b3; clear ho3 hb3 b3; clear hg3
    first | refine Mid.mk ⟨HS.out, ?_⟩ | refine Mid.mk ?_
    refine held_one 14 0 (by kernel_rfl) (by kernel_rfl) ?_; simp only [pickL, List.map_cons, List.map_nil, List.getD_cons_succ, List.getD_cons_zero]; have p0 : w3.cell? ⟨g3, 0, none⟩ = some (.int .i64 0) := b3'.out.cell rfl; have p1 : w3.cell? ⟨g3, 1, none⟩ = some (.int .i64 0) := b3'.out.cell rfl; have p2 : w3.cell? ⟨g3, 2, none⟩ = some (.slice none 0 0) := b3'.out.cell rfl; have y0 := b3'.out.frozen 0; have y1 := b3'.out.frozen 1; have y2 := b3'.out.frozen 2
    go_wp2_with fail
    have b4 := b3'.out.set3 (.int .i64 ty) (.int .i64 cnt) (.slice a5 m5 c5); have hb4 := below_set3 hb3'.out h23 (.int .i64 ty) (.int .i64 cnt) (.slice a5 m5 c5); have ho4 := own_but ho3'.out ((((But.refl g3 w3).set 0 (.int .i64 ty)).set 1 (.int .i64 cnt)).set 2 (.slice a5 m5 c5)) hog; have HS := Lib.hid (hsurj'.out _ hb4); refine Mid.mk ⟨HS.out, ?_⟩; refine held_last (by kernel_rfl) ?_; clear p0 p1 p2 y0 y1 y2 b3' hb3' ho3'
    generalize (((w3.setCell ⟨g3, 0, none⟩ (.int .i64 ty)).setCell ⟨g3, 1, none⟩ (.int .i64 cnt)).setCell ⟨g3, 2, none⟩ (.slice a5 m5 c5)) = w4 at *
    have c0 : w4.cell? ⟨g3, 0, none⟩ = some (.int .i64 ty) := b4.cell rfl; have c1 : w4.cell? ⟨g3, 1, none⟩ = some (.int .i64 cnt) := b4.cell rfl; have c2 : w4.cell? ⟨g3, 2, none⟩ = some (.slice a5 m5 c5) := b4.cell rfl; have b04 := b0'.out.late hb4; have hbw4 := hbb'.out.trans (hb4.mono hbb'.out.size); have hM := may_any ty cnt a5 m5 c5 (turnS (b.take L) pt o) w4 (Sl.of_own ho4).1 (byt_turn (hby'.out.take _) _ _); have hW4 := hb4.size; have h0W := b0'.out.lt; clear hb2' ho' hb'; obtain ⟨r, hr⟩ : ∃ r, mayS ty cnt (turnS (b.take L) pt o) = r := ⟨_, rfl⟩; rw [hr] at hM; have hRr := hRR'.out; rw [hr] at hRr
    generalize hD : turnS (b.take L) pt o = D at *
    have b4' := Lib.hid b4; have hb4' := Lib.hid hb4; have ho4' := Lib.hid ho4; have b04' := Lib.hid b04; have hbw4' := Lib.hid hbw4; have hM' := Lib.hid hM; have hRr' := Lib.hid hRr; have hr' := Lib.hid hr; have hD' := Lib.hid hD; clear b4 hb4 ho4 b04 hbw4 hM hRr hr hD
    go_wp2_with fail
    refine hM'.out.mono ?_; rintro e w5 ⟨rfl, hb5⟩; have b5 := b04'.out.late hb5; have hbw5 := hbw4'.out.trans (hb5.mono hbw4'.out.size); have ho5 := own_later ho4'.out hb5; have b35 := b4'.out.late hb5; have c0 : w5.cell? ⟨g3, 0, none⟩ = some (.int .i64 ty) := b35.cell rfl; have c1 : w5.cell? ⟨g3, 1, none⟩ = some (.int .i64 cnt) := b35.cell rfl; have c2 : w5.cell? ⟨g3, 2, none⟩ = some (.slice a5 m5 c5) := b35.cell rfl; have p0 : w5.cell? ⟨w.heap.size, 0, none⟩ = some (.int .i64 0) := b5.cell rfl; have p1 : w5.cell? ⟨w.heap.size, 1, none⟩ = some (.int .i64 0) := b5.cell rfl; have p2 : w5.cell? ⟨w.heap.size, 2, none⟩ = some (.slice none 0 0) := b5.cell rfl; have y0 := b5.frozen 0; have y1 := b5.frozen 1; have y2 := b5.frozen 2; clear b35 hb5; have b5' := Lib.hid b5; have hbw5' := Lib.hid hbw5; have ho5' := Lib.hid ho5; clear b5 hbw5 ho5
    cases r
    · have hRr := hRr'.out
      simp only [Bool.false_eq_true, if_false] at hRr; subst hRr
      go_wp2_with fail
      refine bodyPost_ret (results_blk_tmp rfl _ _ w.heap.size 72 #[.int .i64 0, .int .i64 0, .slice none 0 0] _ rfl (b5'.out.set3 _ _ _) Tryz.underlying72 rfl (by kernel_rfl)) rfl ?_; exact ⟨0, 0, none, 0, 0, rfl, below_set3 hbw5'.out (Nat.le_refl _) _ _ _, fun d h => by cases h⟩
    · have hRr := hRr'.out
      simp only [if_true] at hRr; subst hRr
      go_wp2_with fail
      refine bodyPost_ret (results_blk_tmp rfl _ _ w.heap.size 72 #[.int .i64 ty, .int .i64 cnt, .slice a5 m5 c5] _ rfl (b5'.out.set3 _ _ _) Tryz.underlying72 rfl (by kernel_rfl)) rfl ?_
      exact ⟨ty, cnt, a5, m5, c5, rfl, below_set3 hbw5'.out (Nat.le_refl _) _ _ _, fun d h => by
        obtain rfl : D = d := by simpa using h
        exact ⟨rfl, rfl, own_mono (own_set3 (own_mono ho5'.out (Nat.le_refl W.heap.size)) h0W _ _ _) (Nat.le_of_lt h0W)⟩⟩
  · go_wp2_with fail
    have hb3 := ((Below.refl W.heap.size W).alloc (Nat.le_refl _) (.cells #[.int .i64 0, .int .i64 0, .slice none 0 0] 72)).drew; have b3 : Blk (W.alloc (.cells #[.int .i64 0, .int .i64 0, .slice none 0 0] 72)).drew W.heap.size 72 #[.int .i64 0, .int .i64 0, .slice none 0 0] := Blk.new W _ _; have hsz3 : (W.alloc (.cells #[.int .i64 0, .int .i64 0, .slice none 0 0] 72)).drew.heap.size = W.heap.size + 1 := by show (W.alloc _).heap.size = _; simp
    have HS := Lib.hid (hsurj'.out _ hb3); obtain ⟨w3, hw3⟩ : ∃ w3, (W.alloc (.cells #[.int .i64 0, .int .i64 0, .slice none 0 0] 72)).drew = w3 := ⟨_, rfl⟩; rw [hw3] at hb3 b3 hsz3 HS; rw [hw3]; clear hw3; have b3' := Lib.hid b3; have hb3' := Lib.hid hb3; clear b3 hb3
    first | refine Mid.mk ⟨HS.out, ?_⟩ | refine Mid.mk ?_
    refine held_one 11 2 (by kernel_rfl) (by kernel_rfl) ?_; simp only [pickL, List.map_cons, List.map_nil, List.getD_cons_succ, List.getD_cons_zero]
    go_wp2_with fail
    refine (hTN'.out _ (hbb'.out.trans (hb3'.out.mono hbb'.out.size))).mono ?_; rintro e w2 ⟨a5, m5, c5, rfl, ho, hb2⟩; have hb := hb3'.out.trans (hb2.mono hb3'.out.size); have HS := Lib.hid (hsurj'.out _ hb); have b3 := b3'.out.late hb2; have hog : (Value.slice a5 m5 c5).ownBlock ≠ some W.heap.size := fun hx => by have := (ho.lt _ hx).1; omega
    have ho := own_mono ho hb3'.out.size; clear b3' hb3' hsz3; have hb' := Lib.hid hb; have ho' := Lib.hid ho; have hb2' := Lib.hid hb2; have b3' := Lib.hid b3; clear hb ho hb2 b3
    go_wp2_with fail
    first | refine Mid.mk ⟨HS.out, ?_⟩ | refine Mid.mk ?_
    refine held_take [12] 1 (by kernel_rfl) (fun d _ _ _ _ h => by cases d <;> exact h) (by kernel_rfl) (by kernel_rfl) (by kernel_rfl) HS.out ?_; simp only [pickL, List.map_cons, List.map_nil, List.getD_cons_succ, List.getD_cons_zero]
    iterate 1 (go_big_quiet_step (fail))
    refine wpQuiet_nil ?_; refine held_one 14 0 (by kernel_rfl) (by kernel_rfl) ?_; simp only [pickL, List.map_cons, List.map_nil, List.getD_cons_succ, List.getD_cons_zero]; obtain ⟨g3, hg3⟩ : ∃ g, W.heap.size = g := ⟨_, rfl⟩; have h23 : W.heap.size ≤ g3 := Nat.le_of_eq hg3; have hb3' := hb'; have ho3' := ho'

    rw [hg3]; rw [hg3] at hog b3'; obtain ⟨w3, hw3⟩ : ∃ w3, w2 = w3 := ⟨_, rfl⟩; rw [hw3] at b3' hb3' ho3'; rw [hw3]; clear hw3 hg3; have p0 : w3.cell? ⟨g3, 0, none⟩ = some (.int .i64 0) := b3'.out.cell rfl; have p1 : w3.cell? ⟨g3, 1, none⟩ = some (.int .i64 0) := b3'.out.cell rfl; have p2 : w3.cell? ⟨g3, 2, none⟩ = some (.slice none 0 0) := b3'.out.cell rfl; have y0 := b3'.out.frozen 0; have y1 := b3'.out.frozen 1; have y2 := b3'.out.frozen 2
    go_wp2_with fail
    have b4 := b3'.out.set3 (.int .i64 ty) (.int .i64 cnt) (.slice a5 m5 c5); have hb4 := below_set3 hb3'.out h23 (.int .i64 ty) (.int .i64 cnt) (.slice a5 m5 c5); have ho4 := own_but ho3'.out ((((But.refl g3 w3).set 0 (.int .i64 ty)).set 1 (.int .i64 cnt)).set 2 (.slice a5 m5 c5)) hog; have HS := Lib.hid (hsurj'.out _ hb4); refine Mid.mk ⟨HS.out, ?_⟩; refine held_last (by kernel_rfl) ?_; clear p0 p1 p2 y0 y1 y2 b3' hb3' ho3'
    generalize (((w3.setCell ⟨g3, 0, none⟩ (.int .i64 ty)).setCell ⟨g3, 1, none⟩ (.int .i64 cnt)).setCell ⟨g3, 2, none⟩ (.slice a5 m5 c5)) = w4 at *
    have c0 : w4.cell? ⟨g3, 0, none⟩ = some (.int .i64 ty) := b4.cell rfl; have c1 : w4.cell? ⟨g3, 1, none⟩ = some (.int .i64 cnt) := b4.cell rfl; have c2 : w4.cell? ⟨g3, 2, none⟩ = some (.slice a5 m5 c5) := b4.cell rfl; have b04 := b0'.out.late hb4; have hbw4 := hbb'.out.trans (hb4.mono hbb'.out.size); have hM := may_any ty cnt a5 m5 c5 (turnS (b.take L) pt o) w4 (Sl.of_own ho4).1 (byt_turn (hby'.out.take _) _ _); have hW4 := hb4.size; have h0W := b0'.out.lt; clear hb2' ho' hb'; obtain ⟨r, hr⟩ : ∃ r, mayS ty cnt (turnS (b.take L) pt o) = r := ⟨_, rfl⟩; rw [hr] at hM; have hRr := hRR'.out; rw [hr] at hRr
    generalize hD : turnS (b.take L) pt o = D at *
    have b4' := Lib.hid b4; have hb4' := Lib.hid hb4; have ho4' := Lib.hid ho4; have b04' := Lib.hid b04; have hbw4' := Lib.hid hbw4; have hM' := Lib.hid hM; have hRr' := Lib.hid hRr; have hr' := Lib.hid hr; have hD' := Lib.hid hD; clear b4 hb4 ho4 b04 hbw4 hM hRr hr hD
    go_wp2_with fail
    refine hM'.out.mono ?_; rintro e w5 ⟨rfl, hb5⟩; have b5 := b04'.out.late hb5; have hbw5 := hbw4'.out.trans (hb5.mono hbw4'.out.size); have ho5 := own_later ho4'.out hb5; have b35 := b4'.out.late hb5; have c0 : w5.cell? ⟨g3, 0, none⟩ = some (.int .i64 ty) := b35.cell rfl; have c1 : w5.cell? ⟨g3, 1, none⟩ = some (.int .i64 cnt) := b35.cell rfl; have c2 : w5.cell? ⟨g3, 2, none⟩ = some (.slice a5 m5 c5) := b35.cell rfl; have p0 : w5.cell? ⟨w.heap.size, 0, none⟩ = some (.int .i64 0) := b5.cell rfl; have p1 : w5.cell? ⟨w.heap.size, 1, none⟩ = some (.int .i64 0) := b5.cell rfl; have p2 : w5.cell? ⟨w.heap.size, 2, none⟩ = some (.slice none 0 0) := b5.cell rfl; have y0 := b5.frozen 0; have y1 := b5.frozen 1; have y2 := b5.frozen 2; clear b35 hb5; have b5' := Lib.hid b5; have hbw5' := Lib.hid hbw5; have ho5' := Lib.hid ho5; clear b5 hbw5 ho5
    cases r
    · have hRr := hRr'.out
      simp only [Bool.false_eq_true, if_false] at hRr; subst hRr
      go_wp2_with fail
      refine bodyPost_ret (results_blk_tmp rfl _ _ w.heap.size 72 #[.int .i64 0, .int .i64 0, .slice none 0 0] _ rfl (b5'.out.set3 _ _ _) Tryz.underlying72 rfl (by kernel_rfl)) rfl ?_; exact ⟨0, 0, none, 0, 0, rfl, below_set3 hbw5'.out (Nat.le_refl _) _ _ _, fun d h => by cases h⟩
    · have hRr := hRr'.out
      simp only [if_true] at hRr; subst hRr
      go_wp2_with fail
      refine bodyPost_ret (results_blk_tmp rfl _ _ w.heap.size 72 #[.int .i64 ty, .int .i64 cnt, .slice a5 m5 c5] _ rfl (b5'.out.set3 _ _ _) Tryz.underlying72 rfl (by kernel_rfl)) rfl ?_
      exact ⟨ty, cnt, a5, m5, c5, rfl, below_set3 hbw5'.out (Nat.le_refl _) _ _ _, fun d h => by
        obtain rfl : D = d := by simpa using h
        exact ⟨rfl, rfl, own_mono (own_set3 (own_mono ho5'.out (Nat.le_refl W.heap.size)) h0W _ _ _) (Nat.le_of_lt h0W)⟩⟩
end Go.Proofs.YtceclmpmpldmlaaGreat
