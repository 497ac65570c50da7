/- Chapter 19: Value of the document. -/
import Derived.Test.YtheelhepelbgcaaEn2
namespace Go.Proofs.Ytheelhepelbgcaa
open Go.RowKit Tt
set_option linter.unusedVariables false
set_option linter.unusedSimpArgs false

theorem zerosB_iff {D : List Int} {L : Nat} : zerosB (D.drop L) = true ↔ ∀ j, L ≤ j → j < D.length → D.getD j 0 = 0 := by
  unfold zerosB
  simp only [Bool.not_eq_true', List.any_eq_false, bne_iff_ne, ne_eq, Decidable.not_not]
  constructor
  · intro h j h1 h2
    refine h _ ?_
    rw [getD_el h2, List.mem_iff_getElem?]
    exact ⟨j - L, by rw [List.getElem?_drop, show L + (j - L) = j by omega, List.getElem?_eq_getElem h2]⟩
  · intro h x hx
    obtain ⟨i, hi⟩ := List.mem_iff_getElem?.1 hx
    rw [List.getElem?_drop] at hi
    obtain ⟨h2, rfl⟩ := List.getElem?_eq_some_iff.1 hi
    have := h (L + i) (by omega) h2
    rwa [getD_el h2] at this
set_option maxRecDepth 20000 in
set_option maxHeartbeats 4000000 in
theorem rvalue_any (x : Ent) (o : Int) (w : World) : Calls Try.prog 87 #[entV x, .int .i64 o] w (InPost w x.2.1 x.2.2.1 (inS x o)) := by
  obtain ⟨tg, ty, cnt, sl⟩ := x
  unfold entV
  simp only
  obtain ⟨R, hR⟩ : ∃ R, inS (tg, ty, cnt, sl) o = R := ⟨_, rfl⟩
  rw [hR]
  unfold inS at hR
  simp only at hR
  have HP := fun W => r1put_any sl 4 o W
  have HI := fun W => rinl_any ty cnt W
  have hpl := putS_len (n := sl) (o := o)
  have hpb := putS_byt sl 4 o
  generalize putOk sl 4 o = pk at *
  obtain ⟨il, hil⟩ : ∃ il, inlB ty cnt = il := ⟨_, rfl⟩
  rw [hil] at hR HI
  have hil' := Lib.hid hil
  clear hil
  generalize putS sl 4 o = D at *
  obtain ⟨W, hW⟩ : ∃ W, (w.alloc (.cells #[.int .i64 tg, .int .i64 ty, .int .i64 cnt, .int .i64 sl] 105)).alloc (.cells #[.int .i64 0, .int .i64 0, .slice none 0 0] 54) = W := ⟨_, rfl⟩
  have bx : Blk W w.heap.size 105 #[.int .i64 tg, .int .i64 ty, .int .i64 cnt, .int .i64 sl] := by rw [← hW]; exact (Blk.new w _ _).alloc _
  have b0 : Blk W (w.heap.size + 1) 54 #[.int .i64 0, .int .i64 0, .slice none 0 0] := by rw [← hW]; exact heap_new' _ _ (by simp)
  have hbW : Below w.heap.size w W := by rw [← hW]; exact (((Below.refl w.heap.size w).alloc (Nat.le_refl _) _).alloc (by simp) _)
  have hltW := b0.lt
  have c3 : W.cell? ⟨w.heap.size, 3, none⟩ = some (.int .i64 sl) := bx.cell rfl
  have HP' := Lib.hid HP
  have HI' := Lib.hid HI
  have hpl' := Lib.hid hpl
  have hpb' := Lib.hid hpb
  have bx' := Lib.hid bx
  have b0' := Lib.hid b0
  have hbW' := Lib.hid hbW
  have hR' := Lib.hid hR
  clear HP HI hpl hpb bx b0 hbW hR
  go_enter Try.func87, Try.ntmps87
  go_upto_region 1 with fail
  try rw [hW]
  clear hW
  go_wp2_with fail
  refine (HP'.out _).mono ?_
  rintro e w1 ⟨a1, m1, c1, rfl, ho1, hb1⟩
  obtain rfl : m1 = D.length := by have := (Sl.of_own ho1).1.ilen; omega
  have bx1 := bx'.out.late hb1
  have b01 := b0'.out.late hb1
  have hbw1 := hbW'.out.trans (hb1.mono hbW'.out.size)
  have hlt1 := b01.lt
  have k1 : w1.cell? ⟨w.heap.size, 1, none⟩ = some (.int .i64 ty) := bx1.cell rfl
  have k2 : w1.cell? ⟨w.heap.size, 2, none⟩ = some (.int .i64 cnt) := bx1.cell rfl
  have p0 : w1.cell? ⟨w.heap.size + 1, 0, none⟩ = some (.int .i64 0) := b01.cell rfl
  have p1 : w1.cell? ⟨w.heap.size + 1, 1, none⟩ = some (.int .i64 0) := b01.cell rfl
  have p2 : w1.cell? ⟨w.heap.size + 1, 2, none⟩ = some (.slice none 0 0) := b01.cell rfl
  have y0 := b01.frozen 0
  have y1 := b01.frozen 1
  have y2 := b01.frozen 2
  clear hb1 c3
  have bx1' := Lib.hid bx1
  have b01' := Lib.hid b01
  have hbw1' := Lib.hid hbw1
  have ho1' := Lib.hid ho1
  clear bx1 b01 hbw1 ho1
  cases pk
  · obtain rfl : R = none := by rw [← hR'.out]; rfl
    go_wp2_with fail
    refine bodyPost_ret (results_blk_tmp2 rfl _ _ (w.heap.size + 1) 54 #[.int .i64 0, .int .i64 0, .slice none 0 0] _ rfl (b01'.out.set3 _ _ _) Try.underlying54 rfl (by kernel_rfl)) rfl ?_
    exact ⟨0, 0, none, 0, 0, false, rfl, below_set3 hbw1'.out (Nat.le_succ _) _ _ _, fun d h => by cases h⟩
  clear p0 p1 p2 y0 y1 y2
  go_wp2_with fail
  refine (HI'.out _).mono ?_
  rintro e w2 ⟨rfl, hb2⟩
  have bx2 := bx1'.out.late hb2
  have b02 := b01'.out.late hb2
  have hbw2 := hbw1'.out.trans (hb2.mono hbw1'.out.size)
  have ho2 := own_later ho1'.out hb2
  have hlt2 := b02.lt
  clear k1 k2
  have k1 : w2.cell? ⟨w.heap.size, 1, none⟩ = some (.int .i64 ty) := bx2.cell rfl
  have k2 : w2.cell? ⟨w.heap.size, 2, none⟩ = some (.int .i64 cnt) := bx2.cell rfl
  have p0 : w2.cell? ⟨w.heap.size + 1, 0, none⟩ = some (.int .i64 0) := b02.cell rfl
  have p1 : w2.cell? ⟨w.heap.size + 1, 1, none⟩ = some (.int .i64 0) := b02.cell rfl
  have p2 : w2.cell? ⟨w.heap.size + 1, 2, none⟩ = some (.slice none 0 0) := b02.cell rfl
  have y0 := b02.frozen 0
  have y1 := b02.frozen 1
  have y2 := b02.frozen 2
  clear hb2
  have bx2' := Lib.hid bx2
  have b02' := Lib.hid b02
  have hbw2' := Lib.hid hbw2
  have ho2' := Lib.hid ho2
  clear bx2 b02 hbw2 ho2
  cases il
  · obtain rfl : R = none := by rw [← hR'.out]; rfl
    go_wp2_with fail
    refine bodyPost_ret (results_blk_tmp2 rfl _ _ (w.heap.size + 1) 54 #[.int .i64 0, .int .i64 0, .slice none 0 0] _ rfl (b02'.out.set3 _ _ _) Try.underlying54 rfl (by kernel_rfl)) rfl ?_
    exact ⟨0, 0, none, 0, 0, false, rfl, below_set3 hbw2'.out (Nat.le_succ _) _ _ _, fun d h => by cases h⟩
  clear p0 p1 p2 y0 y1 y2
  have hR2 := hR'.out
  simp only [Bool.and_self, if_true] at hR2
  have HO := rof_any ty cnt a1 D.length c1 D o w2 (Sl.of_own ho2'.out).1 hpb'.out
  have hD4 := hpl'.out trivial
  have hol := fun d (h : ofS ty cnt D o = some d) => ofS_len h
  have hlen : ∀ d, ofS ty cnt D o = some d → d.length ≤ 4 := fun d h => by
    have h1 := hil'.out
    unfold inlB longS at h1
    have h2 := ofS_len h
    split at h1 <;> simp at h1 <;> omega
  generalize ofS ty cnt D o = S at *
  have HO' := Lib.hid HO
  have hR2' := Lib.hid hR2
  have hol' := Lib.hid hol
  have hlen' := Lib.hid hlen
  have hD4' := Lib.hid hD4
  clear HO hR2 hol hlen hD4
  go_wp2_with fail
  refine HO'.out.mono ?_
  rintro e w3 ⟨ty', cnt', a3, m3, c3, rfl, hb3, hd3⟩
  have b03 := b02'.out.late hb3
  have hbw3 := hbw2'.out.trans (hb3.mono hbw2'.out.size)
  have ho3 := own_later ho2'.out hb3
  have hlt3 := b03.lt
  clear k1 k2
  have p0 : w3.cell? ⟨w.heap.size + 1, 0, none⟩ = some (.int .i64 0) := b03.cell rfl
  have p1 : w3.cell? ⟨w.heap.size + 1, 1, none⟩ = some (.int .i64 0) := b03.cell rfl
  have p2 : w3.cell? ⟨w.heap.size + 1, 2, none⟩ = some (.slice none 0 0) := b03.cell rfl
  have y0 := b03.frozen 0
  have y1 := b03.frozen 1
  have y2 := b03.frozen 2
  have hb3 := hb3
  have b03' := Lib.hid b03
  have hbw3' := Lib.hid hbw3
  have ho3' := Lib.hid ho3
  have hd3' := Lib.hid hd3
  have hb3' := Lib.hid hb3
  clear b03 hbw3 ho3 hd3 hb3
  go_upto_region 5 with fail
  have b04 := b03'.out.alloc (.cells #[.int .i64 ty', .int .i64 cnt', .slice a3 m3 c3] 54)
  have hbw4 := hbw3'.out.alloc hbw3'.out.size (.cells #[.int .i64 ty', .int .i64 cnt', .slice a3 m3 c3] 54)
  have hal := (Below.refl w3.heap.size w3).alloc (Nat.le_refl _) (.cells #[.int .i64 ty', .int .i64 cnt', .slice a3 m3 c3] 54)
  have ho4 := own_later ho3'.out hal
  have hd6 := fun d h => (⟨(hd3'.out d h).1, (hd3'.out d h).2.1, own_later (hd3'.out d h).2.2 hal⟩ : _ ∧ _ ∧ _)
  have b9 := Blk.new w3 54 #[.int .i64 ty', .int .i64 cnt', .slice a3 m3 c3]
  have bx4 := (bx2'.out.late (hb3'.out)).alloc (.cells #[.int .i64 ty', .int .i64 cnt', .slice a3 m3 c3] 54)
  clear hal p0 p1 p2 y0 y1 y2 hd3'
  generalize w3.alloc (.cells #[.int .i64 ty', .int .i64 cnt', .slice a3 m3 c3] 54) = w4 at *
  obtain ⟨g9, hg9⟩ : ∃ g, w3.heap.size = g := ⟨_, rfl⟩
  rw [hg9] at b9
  rw [hg9]
  clear hg9
  have p0 : w4.cell? ⟨w.heap.size + 1, 0, none⟩ = some (.int .i64 0) := b04.cell rfl
  have p1 : w4.cell? ⟨w.heap.size + 1, 1, none⟩ = some (.int .i64 0) := b04.cell rfl
  have p2 : w4.cell? ⟨w.heap.size + 1, 2, none⟩ = some (.slice none 0 0) := b04.cell rfl
  have y0 := b04.frozen 0
  have y1 := b04.frozen 1
  have y2 := b04.frozen 2
  clear b03' hbw3' ho3'
  have hlt4 := b04.lt
  have b04' := Lib.hid b04
  have hbw4' := Lib.hid hbw4
  have ho4' := Lib.hid ho4
  have hd6' := Lib.hid hd6
  have b9' := Lib.hid b9
  have bx4' := Lib.hid bx4
  clear b04 hbw4 ho4 hd6 b9 bx4
  cases S with
  | none =>
    obtain rfl : R = none := by rw [← hR2'.out]; rfl
    simp only [Option.isSome_none] at *
    go_wp2_with fail
    refine bodyPost_ret (results_blk_tmp2 rfl _ _ (w.heap.size + 1) 54 #[.int .i64 0, .int .i64 0, .slice none 0 0] _ rfl (b04'.out.set3 _ _ _) Try.underlying54 rfl (by kernel_rfl)) rfl ?_
    exact ⟨0, 0, none, 0, 0, false, rfl, below_set3 hbw4'.out (Nat.le_succ _) _ _ _, fun d h => by cases h⟩
  | some d =>
    obtain ⟨rfl, rfl, hod⟩ := hd6'.out d rfl
    have hRd : R = some (d, zerosB (D.drop d.length)) := by rw [← hR2'.out]; rfl
    subst hRd
    have hm3 := (Sl.of_own hod).1.ilen
    have hdl := hol'.out d rfl
    obtain rfl : m3 = d.length := by omega
    have hlong := hlen'.out d rfl
    simp only [Option.isSome_some] at *
    have HL := fun W => rlong_any ty' cnt' W
    have hll : longS ty' cnt' = d.length := by
      have h1 := hil'.out
      unfold inlB at h1
      unfold longS at h1 ⊢
      split
      · rename_i h; rw [if_pos h] at h1; simp at h1
      · omega
    rw [hll] at HL
    have k1 : w4.cell? ⟨w.heap.size, 1, none⟩ = some (.int .i64 ty') := bx4'.out.cell rfl
    have k2 : w4.cell? ⟨w.heap.size, 2, none⟩ = some (.int .i64 cnt') := bx4'.out.cell rfl
    clear hdl hll hm3 p0 p1 p2 y0 y1 y2
    have HL' := Lib.hid HL
    have hod' := Lib.hid hod
    clear HL hod
    go_wp2_with fail
    refine (HL'.out _).mono ?_
    rintro e w5 ⟨rfl, hb5⟩
    have b05 := b04'.out.late hb5
    have hbw5 := hbw4'.out.trans (hb5.mono hbw4'.out.size)
    have hod5 := own_later hod'.out hb5
    have ho5 := own_later ho4'.out hb5
    have b95 := b9'.out.late hb5
    clear hb5 k1 k2
    have h0 : w5.cell? ⟨g9, 0, none⟩ = some (.int .i64 ty') := b95.cell rfl
    have h1 : w5.cell? ⟨g9, 1, none⟩ = some (.int .i64 cnt') := b95.cell rfl
    have h2 : w5.cell? ⟨g9, 2, none⟩ = some (.slice a3 d.length c3) := b95.cell rfl
    have p0 : w5.cell? ⟨w.heap.size + 1, 0, none⟩ = some (.int .i64 0) := b05.cell rfl
    have p1 : w5.cell? ⟨w.heap.size + 1, 1, none⟩ = some (.int .i64 0) := b05.cell rfl
    have p2 : w5.cell? ⟨w.heap.size + 1, 2, none⟩ = some (.slice none 0 0) := b05.cell rfl
    have y0 := b05.frozen 0
    have y1 := b05.frozen 1
    have y2 := b05.frozen 2
    have hD4 := hD4'.out
    have hsD := (Sl.of_own ho5).1
    have hle5 := hsD.le
    have hlt5 := b05.lt
    obtain ⟨nD, hnD⟩ : ∃ nD, D.length = nD := ⟨_, rfl⟩
    rw [hnD] at hD4 hsD hle5
    rw [hnD]
    have b05' := Lib.hid b05
    have hbw5' := Lib.hid hbw5
    have hod5' := Lib.hid hod5
    have ho5' := Lib.hid ho5
    have b95' := Lib.hid b95
    have hsD' := Lib.hid hsD
    have hnD' := Lib.hid hnD
    clear b05 hbw5 hod5 ho5 b95 hsD hnD
    obtain ⟨L, hL⟩ : ∃ L, d.length = L := ⟨_, rfl⟩
    have hL4 : L ≤ 4 := by omega
    rw [hL] at h2 b95' hod5'
    rw [hL]
    clear hlong hod' hd6' ho4' b9' hol' hlen'
    have hL' := Lib.hid hL
    clear hL
    go_wp2_with fail
    go_loop [10] (fun iv => ∃ k : Nat, L ≤ k ∧ k ≤ 4 ∧ iv = .int .i64 k ∧ Hid (∀ j, L ≤ j → j < k → D.getD j 0 = 0)) (fun i => 4 - (intOf i).toNat)
    case atStart => exact ⟨L, by omega, by omega, rfl, Lib.hid (fun j _ _ => by omega)⟩
    case round =>
      obtain ⟨k, hkL, hk, rfl, hall⟩ := hrel
      by_cases hlt : k < 4
      · obtain ⟨b, off, rfl, hbb2, hc⟩ := hsD'.out.at (i := k) (by omega)
        have f1 := hc k _ (ints_get (by rw [hnD'.out]; omega))
        obtain ⟨x, hx⟩ : ∃ x, D.getD k 0 = x := ⟨_, rfl⟩
        rw [hx] at f1
        have hkn : (k : Int) < nD := by omega
        clear hc
        by_cases hx0 : x = 0
        · have d1 : (x != 0) = false := by simp [hx0]
          have hall2 : ∀ j, L ≤ j → j < k + 1 → D.getD j 0 = 0 := fun j h1 h2 => by
            by_cases hj : j = k
            · subst hj; rw [hx, hx0]
            · exact hall.out j h1 (by omega)
          clear p0 p1 p2 y0 y1 y2 h0 h1 h2
          have hall2' := Lib.hid hall2
          have hx' := Lib.hid hx
          have hx0' := Lib.hid hx0
          clear hall2 hx hx0
          go_wp2
          go_round
          case rel => exact ⟨k + 1, by omega, by omega, by go_num, hall2'⟩
          case measure => simp [intOf]; omega
        · have d1 : (x != 0) = true := by simp [hx0]
          have hx' := Lib.hid hx
          have hx0' := Lib.hid hx0
          clear hx hx0
          go_wp2
          refine bodyPost_ret (results_blk_tmp2 rfl _ _ (w.heap.size + 1) 54 #[.int .i64 ty', .int .i64 cnt', .slice a3 L c3] _ rfl (b05'.out.set3 _ _ _) Try.underlying54 rfl (by kernel_rfl)) rfl ?_
          refine ⟨ty', cnt', a3, L, c3, false, rfl, below_set3 hbw5'.out (Nat.le_succ _) _ _ _, fun d' h => ?_⟩
          obtain rfl : _ = d' := by simpa using h
          refine ⟨rfl, rfl, ?_, own_mono (own_but hod5'.out ((((But.refl (w.heap.size + 1) w5).set 0 _).set 1 _).set 2 _) (fun hx => by have := (hod5'.out.lt _ hx).1; omega)) hbw2'.out.size⟩
          show false = zerosB (D.drop d.length)
          rw [hL'.out]
          refine Eq.symm ?_
          cases hz : zerosB (D.drop L)
          · rfl
          · exact absurd ((zerosB_iff.1 hz) k hkL (by rw [hnD'.out]; omega)) (by rw [hx'.out]; exact hx0'.out)
      · obtain rfl : k = 4 := by omega
        go_wp2
        refine bodyPost_ret (results_blk_tmp2 rfl _ _ (w.heap.size + 1) 54 #[.int .i64 ty', .int .i64 cnt', .slice a3 L c3] _ rfl (b05'.out.set3 _ _ _) Try.underlying54 rfl (by kernel_rfl)) rfl ?_
        refine ⟨ty', cnt', a3, L, c3, true, rfl, below_set3 hbw5'.out (Nat.le_succ _) _ _ _, fun d' h => ?_⟩
        obtain rfl : _ = d' := by simpa using h
        refine ⟨rfl, rfl, ?_, own_mono (own_but hod5'.out ((((But.refl (w.heap.size + 1) w5).set 0 _).set 1 _).set 2 _) (fun hx => by have := (hod5'.out.lt _ hx).1; omega)) hbw2'.out.size⟩
        show true = zerosB (D.drop d.length)
        rw [hL'.out]
        exact (zerosB_iff.2 (fun j h1 h2 => hall.out j h1 (by rw [hnD'.out] at h2; omega))).symm
end Go.Proofs.Ytheelhepelbgcaa
