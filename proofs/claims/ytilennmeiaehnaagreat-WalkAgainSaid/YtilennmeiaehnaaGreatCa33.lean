/- Chapter 22: the walker's entries. -/
import Derived.Test.YtilennmeiaehnaaGreatCa32
namespace Go.Proofs.YtilennmeiaehnaaGreat
open Go.RowKit Tt
set_option linter.unusedVariables false
set_option linter.unusedSimpArgs false

theorem getV_lt {z : List Int} (hb : Byt z) (p : Int) (size : Nat) (o : Int) : 0 ≤ getV z p size o ∧ getV z p size o < 256 ^ size := by
  unfold getV
  split
  · rename_i h
    unfold getB at h; simp only [Bool.and_eq_true, decide_eq_true_eq] at h; have hl := getL_len (z := z) (at_ := p.toNat) (size := size) (order := o) (by omega); have hby := getL_byt hb p.toNat size o; have := be_bound hby (j := size) (by rw [hl]; exact Nat.le_refl _); rw [List.take_of_length_le (by rw [hl]; exact Nat.le_refl _)] at this; rw [Int.toNat_natCast]; exact this
  · have : (0 : Int) < 256 ^ size := Int.pow_pos (by decide)
    omega
theorem risesE_no : ∀ {l : List Ent} {i : Nat}, i + 1 < l.length → ¬ (l.getD i (0, 0, 0, 0)).1 < (l.getD (i + 1) (0, 0, 0, 0)).1 → risesE l = false
  | [], _, h, _ => by simp at h
  | [_], _, h, _ => by simp at h
  | x :: y :: r, 0, _, h => by
    simp only [risesE]; rw [decide_eq_false (by simpa using h)]; rfl
  | x :: y :: r, i + 1, h, h2 => by
    simp only [risesE]; rw [risesE_no (l := y :: r) (i := i) (by simpa using h) (by simpa using h2)]; simp
theorem risesE_yes : ∀ {l : List Ent}, (∀ i, i + 1 < l.length → (l.getD i (0, 0, 0, 0)).1 < (l.getD (i + 1) (0, 0, 0, 0)).1) → risesE l = true
  | [], _ => rfl
  | [_], _ => rfl
  | x :: y :: r, h => by
    simp only [risesE]; rw [decide_eq_true (by simpa using h 0 (by simp)), risesE_yes (l := y :: r) (fun i hi => by simpa using h (i + 1) (by simpa using hi))]
    rfl
theorem entsS_len (z : List Int) (o p : Int) (k : Nat) : (entsS z o p k).length = k := by simp [entsS]
theorem entsS_get {z : List Int} {o p : Int} {k i : Nat} (h : i < k) : (entsS z o p k).getD i (0, 0, 0, 0) = entAt z o (p + 2 + 12 * i) := by
  rw [getD_el (by rw [entsS_len]; exact h)]; simp [entsS]
theorem entC_one (x : Ent) : ∀ u ∈ entC x, u.oneCell' = true := by
  intro u hu; simp only [entC, List.mem_cons, List.not_mem_nil, or_false] at hu
  rcases hu with rfl | rfl | rfl | rfl <;> rfl
theorem infoEn : (Tryz.prog.info? 62).map (fun i => (i.size, i.bytes)) = some (4, 32) := by kernel_rfl
theorem infoEnz : (Tryz.prog.info? 62).map (fun i => i.zero.map (fun z => z.cells.size)) = some (some 4) := by kernel_rfl
theorem takeS_fit {n : Nat} {x : Spt} {s s' : St} (h : takeS n x s = .ok s') : fitB n x = true := by
  unfold takeS at h
  split at h
  · rename_i h1; exact h1
  · cases h
/-- how entries are handed back -/
def EntsAt (w : World) (l : List Ent) (sv' : Value) (e : Ending) (w' : World) : Prop :=
  ∃ a m c, e = .returned (.slice a m c) ∧ Ck (fun k => sv'.ownBlock = some k) w.heap.size w' (.slice a m c) 62 4 l.length (fl entC l)
set_option maxRecDepth 20000 in
set_option maxHeartbeats 8000000 in
theorem entries_any (K : WkS) (t : WkT K) (ho : K.o = 1 ∨ K.o = 2) (s : St) (sv : Value) (tk : List Nat) (w : World) (p no : Int) (hok : WkOk K s sv tk w) (h0 : 0 ≤ p) (h1 : p ≤ 4294967295) (hsm : s.spots.length ≤ 4294967295) :
    Calls Tryz.prog 159 #[.pointer (some ⟨K.g, 0, none⟩), .int .i64 p, .int .i64 no] w (WPost K sv w (entriesS K.z K.o p no s) (EntsAt w)) := by
  have hn := t.n1; have hzl := t.hs.ilen; obtain ⟨R, hR⟩ : ∃ R, entriesS K.z K.o p no s = R := ⟨_, rfl⟩; rw [hR]; unfold entriesS at hR; rw [hzl] at hR; have hRm := fun W => room_any p 2 K.n W (by omega) (by omega); have hNm := fun W (h : Sl W K.a K.n K.c 1 (ints .u8 K.z)) => bnum_any K.a K.n K.c K.z K.o p 2 W h t.byt; have htm : Int.tmod p 2 = p % 2 := Int.tmod_eq_emod_of_nonneg h0; have HB0 := Lib.hid (Below.refl w.heap.size w); have c0 : w.cell? ⟨K.g, 0, none⟩ = some (.slice K.a K.n K.c) := hok.blk.cell rfl; have c1 : w.cell? ⟨K.g, 1, none⟩ = some (.int .i64 K.o) := hok.blk.cell rfl; have hok' := Lib.hid hok; have t' := Lib.hid t; have hRm' := Lib.hid hRm; have hNm' := Lib.hid hNm; have hzl' := Lib.hid hzl; clear hok t hRm hNm hzl
  by_cases hev : p % 2 = 0
  case neg =>
    have d1 : (p % 2 == 0) = false := by simp [hev]
    obtain rfl : R = .error 4 := by rw [← hR, decide_eq_false hev]; simp
    clear hR hev
    go_enter Tryz.func159, Tryz.ntmps159
    go_wp2_with (go_at_call 122; refine (must_any _ _ _).mono ?_; rintro e w3 ⟨rfl, rfl⟩; simp only [mustE_t, mustE_f])
    exact ⟨rfl, rfl, sv, Mv.of_below HB0.out⟩
  have d1 : (p % 2 == 0) = true := by simp [hev]
  rw [decide_eq_true hev, Bool.true_and] at hR; obtain ⟨r, hr⟩ : ∃ r, roomB p 2 K.n = r := ⟨_, rfl⟩; rw [hr] at hR hRm'
  cases r
  case false =>
    obtain rfl : R = .error 4 := by rw [← hR]; simp
    clear hR hev hr
    go_enter Tryz.func159, Tryz.ntmps159
    go_wp2_with (first | (go_at_call 112; refine (hRm'.out _).mono ?_; rintro e w3 ⟨rfl, rfl⟩) | (go_at_call 122; refine (must_any _ _ _).mono ?_; rintro e w3 ⟨rfl, rfl⟩; simp only [mustE_t, mustE_f]))
    exact ⟨rfl, rfl, sv, Mv.of_below HB0.out⟩
  rw [if_pos rfl] at hR; clear hev hr; have hkv := getV_lt t'.out.byt p 2 K.o; rw [show ((2 : Nat) : Int) = 2 from rfl] at hkv; obtain ⟨k, hk⟩ : ∃ k : Nat, getV K.z p 2 K.o = k := ⟨(getV K.z p 2 K.o).toNat, by omega⟩; rw [hk] at hR hkv; rw [hk] at hNm'; have hk6 : k < 65536 := by have h := hkv.2; rw [show (256 : Int) ^ 2 = 65536 by decide] at h; omega
  clear hkv; rw [Int.toNat_natCast] at hR
  by_cases hk0 : 0 < (k : Int)
  case neg =>
    have d2 : decide (0 < (k : Int)) = false := by simp; omega
    have d3 : decide (0 < k) = false := by simp; omega
    obtain rfl : R = .error 2 := by rw [← hR, if_neg hk0]
    clear hR hk0
    go_enter Tryz.func159, Tryz.ntmps159
    go_wp2_with (first | (go_at_call 112; refine (hRm'.out _).mono ?_; rintro e w3 ⟨rfl, rfl⟩) | (go_at_call 157; refine (hNm'.out _ (hok'.out.byts t'.out)).mono ?_; rintro e w4 ⟨rfl, hb4⟩; replace HB0 := Lib.hid hb4; clear hb4) | (go_at_call 122; refine (must_any _ _ _).mono ?_; rintro e w3 ⟨rfl, rfl⟩; simp only [mustE_t, mustE_f]))
    exact ⟨rfl, rfl, sv, Mv.of_below HB0.out⟩
  have d2 : decide (0 < (k : Int)) = true := by simp; omega
  have d3 : decide (0 < k) = true := by simp; omega
  rw [if_pos hk0] at hR
  go_enter Tryz.func159, Tryz.ntmps159
  go_wp2_with (first | (go_at_call 112; refine (hRm'.out _).mono ?_; rintro e w3 ⟨rfl, rfl⟩) | (go_at_call 157; refine (hNm'.out _ (hok'.out.byts t'.out)).mono ?_; rintro e w4 ⟨rfl, hb4⟩; replace HB0 := Lib.hid hb4; clear hb4) | (go_at_call 122; refine (must_any _ _ _).mono ?_; rintro e w3 ⟨rfl, rfl⟩; simp only [mustE_t, mustE_f]))
  obtain ⟨P, rfl⟩ : ∃ P : Nat, p = P := ⟨p.toNat, by omega⟩; have hok4 := hok'.out.later HB0.out; have HT := take_any K t'.out s sv tk w4 (2, no, 0, (P : Int), 6 + 12 * (k : Int)) hok4 P (6 + 12 * k) rfl (show (6 + 12 * (k : Int)) = ((6 + 12 * k : Nat) : Int) by omega) (by omega) (by omega) hsm; obtain ⟨T, hT⟩ : ∃ T, takeS K.n (2, no, 0, (P : Int), 6 + 12 * (k : Int)) s = T := ⟨_, rfl⟩; rw [hT] at HT hR; clear hok4 c0 c1 hNm' hRm'; have HT' := Lib.hid HT; clear HT; refine HT'.out.mono ?_; rintro e w5 hpost
  cases T with
  | error x =>
    obtain rfl : R = .error x := by rw [← hR]
    obtain ⟨rfl, sv', hmv⟩ := hpost; clear hR hT HT'; have hmv' := Lib.hid hmv; clear hmv
    go_wp2_with fail
    exact ⟨rfl, rfl, sv', (Mv.of_below HB0.out).trans hmv'.out⟩
  | ok s1 =>
    obtain ⟨sv1, tk1, hok1, hmv1, rfl⟩ := hpost
    have hfit : P + 6 + 12 * k ≤ K.n := by
      have := takeS_fit hT; unfold fitB roomB at this
      simp at this
      omega
    simp only at hR; have hEl := entsS_len K.z K.o P k; have hEg := fun i (h : i < k) => entsS_get (z := K.z) (o := K.o) (p := (P : Int)) h; obtain ⟨E, hE⟩ : ∃ E, entsS K.z K.o P k = E := ⟨_, rfl⟩; rw [hE] at hR hEl hEg; obtain ⟨i0, z0, hi0, hz, hz1, hz2, hz3⟩ := info_sz infoEn infoEnz; have hw5 : w.heap.size ≤ w5.heap.size := Nat.le_trans HB0.out.size hmv1.size; have hmvw : Mv K.g K.gt sv sv1 w w5 := (Mv.of_below HB0.out).trans hmv1; clear hE hT HT' hmv1 HB0; have hR' := Lib.hid hR; have hEl' := Lib.hid hEl; have hEg' := Lib.hid hEg; have hok1' := Lib.hid hok1; have hmvw' := Lib.hid hmvw; clear hR hEl hEg hok1 hmvw
    go_wp2_with fail
    go_loopw [8, 44] (fun ov iv wr => ∃ (i : Nat) (a : Option Addr) (c : Nat), i ≤ k ∧ iv = .int .i64 i ∧ ov = .slice a i c ∧ Hid (wr.ownsRow w5.heap.size 62 4 (.slice a i c) i (fl entC (E.take i))) ∧ Hid (∀ j, j + 1 < i → (E.getD j (0, 0, 0, 0)).1 < (E.getD (j + 1) (0, 0, 0, 0)).1) ∧ Hid (Below w5.heap.size w5 wr)) (fun _ iv _ => k - (intOf iv).toNat)
    case atStart => exact ⟨0, none, 0, by omega, rfl, rfl, Lib.hid (own_nil _ _ _ _), Lib.hid (fun j hj => by omega), Lib.hid (Below.refl _ _)⟩
    case round =>
      obtain ⟨i, a, c, hi, rfl, rfl, hown, hris, hb⟩ := hrel
      by_cases hlt : i < k
      · have hokr := hok1'.out.later hb.out
        obtain ⟨Ty, f, hne, hbel, hsurj⟩ := later_worlds wr; have q0 : ∀ s, (f s).cell? ⟨K.g, 0, none⟩ = some (.slice K.a K.n K.c) := fun s => (Blk.late hokr.blk (hbel s)).cell rfl; have q1 : ∀ s, (f s).cell? ⟨K.g, 1, none⟩ = some (.int .i64 K.o) := fun s => (Blk.late hokr.blk (hbel s)).cell rfl; have HS := Lib.hid (hsurj _ ((Below.refl _ _).drew)); have HD := Lib.hid ((Below.refl wr.heap.size wr).drew); have hwm : IntKind.i64.wrap (12 * (i : Int)) = 12 * i := by rw [IntKind.wrap_i64]; omega
        have hwp : IntKind.i64.wrap ((P : Int) + 2) = P + 2 := by rw [IntKind.wrap_i64]; omega
        have hwq : IntKind.i64.wrap ((P : Int) + 2 + 12 * i) = P + 2 + 12 * i := by rw [IntKind.wrap_i64]; omega
        have hEi := hEg'.out i hlt; have HRd := fun W (h : Below wr.heap.size wr W) => eread_any K.a K.n K.c K.z K.o ((P : Int) + 2 + 12 * i) W ((hokr.byts t'.out).mono h) t'.out.byt ho (by omega) (by omega) hn; rw [← hEi] at HRd; obtain ⟨x, hx⟩ : ∃ x, E.getD i (0, 0, 0, 0) = x := ⟨_, rfl⟩; rw [hx] at HRd; unfold entV at HRd; obtain ⟨x1, x2, x3, x4⟩ := x; simp only at HRd; clear hEi; have hbel' := Lib.hid hbel; have hsurj' := Lib.hid hsurj; have hokr' := Lib.hid hokr; have HRd' := Lib.hid HRd; have hx' := Lib.hid hx; clear hbel hsurj hokr HRd hx
        go_wp2_with fail
        refine held_begin (S := fun W => ∃ s, W = f s) (by kernel_rfl) 22 rfl ?_; refine held_take [0, 1, 2, 3, 4, 5, 6, 7, 8, 9, 10, 11, 12, 13, 14] 7 (by kernel_rfl) (fun d _ _ _ _ h => by cases d <;> exact h) (by kernel_rfl) (by kernel_rfl) (by kernel_rfl) HS.out ?_; simp only [pickL, List.map_cons, List.map_nil, List.getD_cons_succ, List.getD_cons_zero]
        iterate 15 (go_big_quiet_step (fail))
        refine wpQuiet_nil ?_; refine held_two 15 19 6 (by kernel_rfl) (by kernel_rfl) ?_ ?_
        all_goals simp only [pickL, List.map_cons, List.map_nil, List.getD_cons_succ, List.getD_cons_zero]
        case refine_1 =>
          go_wp2_with fail
          refine (HRd'.out _ HD.out).mono ?_; rintro e w6 ⟨rfl, hb6⟩; have hb6 := HD.out.trans (hb6.mono HD.out.size); have HS := Lib.hid (hsurj'.out _ hb6); have hb6' := Lib.hid hb6; clear hb6
          go_wp2_with fail
          first | refine Mid.mk ⟨HS.out, ?_⟩ | refine Mid.mk ?_
          refine held_take [16, 17, 18] 3 (by kernel_rfl) (fun d _ _ _ _ h => by cases d <;> exact h) (by kernel_rfl) (by kernel_rfl) (by kernel_rfl) HS.out ?_; simp only [pickL, List.map_cons, List.map_nil, List.getD_cons_succ, List.getD_cons_zero]
          iterate 3 (go_big_quiet_step (fail))
          refine wpQuiet_nil ?_; refine held_one 19 2 (by kernel_rfl) (by kernel_rfl) ?_; simp only [pickL, List.map_cons, List.map_nil, List.getD_cons_succ, List.getD_cons_zero]
          go_wp2_with fail
          have b7 := Blk.new w6 62 #[.int .i64 0, .int .i64 0, .int .i64 0, .int .i64 0]; have hb7 := hb6'.out.alloc hb6'.out.size (.cells #[.int .i64 0, .int .i64 0, .int .i64 0, .int .i64 0] 62); have hg7 : wr.heap.size ≤ w6.heap.size := hb6'.out.size
          generalize w6.alloc (.cells #[.int .i64 0, .int .i64 0, .int .i64 0, .int .i64 0] 62) = w7 at *
          generalize w6.heap.size = g7 at *
          have HS := Lib.hid (hsurj'.out _ hb7); clear hb6'; have b7' := Lib.hid b7; have hb7' := Lib.hid hb7; clear b7 hb7
          first | refine Mid.mk ⟨HS.out, ?_⟩ | refine Mid.mk ?_
          refine held_one 20 1 (by kernel_rfl) (by kernel_rfl) ?_; simp only [pickL, List.map_cons, List.map_nil, List.getD_cons_succ, List.getD_cons_zero]; have p0 : w7.cell? ⟨g7, 0, none⟩ = some (.int .i64 0) := b7'.out.cell rfl; have p1 : w7.cell? ⟨g7, 1, none⟩ = some (.int .i64 0) := b7'.out.cell rfl; have p2 : w7.cell? ⟨g7, 2, none⟩ = some (.int .i64 0) := b7'.out.cell rfl; have p3 : w7.cell? ⟨g7, 3, none⟩ = some (.int .i64 0) := b7'.out.cell rfl; have y0 := b7'.out.frozen 0; have y1 := b7'.out.frozen 1; have y2 := b7'.out.frozen 2; have y3 := b7'.out.frozen 3
          go_wp2_with fail
          have b8 := b7'.out.set4 (.int .i64 x1) (.int .i64 x2) (.int .i64 x3) (.int .i64 x4); have hb8 := below_set4 hb7'.out hg7 (.int .i64 x1) (.int .i64 x2) (.int .i64 x3) (.int .i64 x4); have HS := Lib.hid (hsurj'.out _ hb8); refine Mid.mk ⟨HS.out, ?_⟩; refine held_take [21] 0 (by kernel_rfl) (fun d _ _ _ _ h => by cases d <;> exact h) (by kernel_rfl) (by kernel_rfl) (by kernel_rfl) HS.out ?_; simp only [pickL, List.map_cons, List.map_nil, List.getD_cons_succ, List.getD_cons_zero]
          iterate 1 (go_big_quiet_step (fail))
          refine wpQuiet_nil ?_; refine held_last (by kernel_rfl) ?_; clear p0 p1 p2 p3 y0 y1 y2 y3 b7' hb7' q0 q1
          generalize ((((w7.setCell ⟨g7, 0, none⟩ (.int .i64 x1)).setCell ⟨g7, 1, none⟩ (.int .i64 x2)).setCell ⟨g7, 2, none⟩ (.int .i64 x3)).setCell ⟨g7, 3, none⟩ (.int .i64 x4)) = w8 at *
          have hown8 := own_later hown.out hb8; have hbw8 := hb.out.trans (hb8.mono hb.out.size); have b8d : Blk w8.drew g7 62 #[.int .i64 x1, .int .i64 x2, .int .i64 x3, .int .i64 x4] := b8; obtain ⟨Ty2, f2, hne2, hbel2, hsurj2⟩ := later_worlds w8; have HS := Lib.hid (hsurj2 _ ((Below.refl _ _).drew)); have q0 : ∀ s, (f2 s).cell? ⟨g7, 0, none⟩ = some (.int .i64 x1) := fun s => (Blk.late b8 (hbel2 s)).cell rfl; clear b8
          by_cases hi0 : i = 0
          · have d5 : ((i : Int) == 0) = true := by simp [hi0]
            have hris2 : ∀ j, j + 1 < i + 1 → (E.getD j (0, 0, 0, 0)).1 < (E.getD (j + 1) (0, 0, 0, 0)).1 := fun j hj => by omega
            clear hi0; have hown8' := Lib.hid hown8; have hbw8' := Lib.hid hbw8; have b8d' := Lib.hid b8d; have hbel2' := Lib.hid hbel2; have hsurj2' := Lib.hid hsurj2; have hris2' := Lib.hid hris2; clear hown8 hbw8 b8d hbel2 hsurj2 hris2
            go_wp2_with fail
            refine held_begin (S := fun W => ∃ s, W = f2 s) (by kernel_rfl) 14 rfl ?_; refine held_take [0, 1, 2, 3, 4, 5, 6, 7, 8, 9, 10, 11, 12] 1 (by kernel_rfl) (fun d _ _ _ _ h => by cases d <;> exact h) (by kernel_rfl) (by kernel_rfl) (by kernel_rfl) HS.out ?_; simp only [pickL, List.map_cons, List.map_nil, List.getD_cons_succ, List.getD_cons_zero]
            iterate 13 (go_big_quiet_step (fail))
            refine wpQuiet_nil ?_; refine held_one 13 0 (by kernel_rfl) (by kernel_rfl) ?_; simp only [pickL, List.map_cons, List.map_nil, List.getD_cons_succ, List.getD_cons_zero]
            go_wp2_with fail
            refine (must_yes _ _).mono ?_; rintro e w9 ⟨rfl, rfl⟩
            go_wp2_with fail
            first | refine Mid.mk ⟨HS.out, ?_⟩ | refine Mid.mk ?_
            refine held_last (by kernel_rfl) ?_; have hown9 : w8.drew.ownsRow w5.heap.size 62 4 _ i (fl entC (E.take i)) := hown8'.out; have hb9 := hbw8'.out.trans (((Below.refl w8.heap.size w8).drew).mono hbw8'.out.size); clear q0
            try clear q5
            obtain ⟨w9, hw9⟩ : ∃ w9, w8.drew = w9 := ⟨_, rfl⟩; rw [hw9] at b8d' hown9 hb9; rw [hw9]; clear hw9 HS; have p0 : w9.cell? ⟨g7, 0, none⟩ = some (.int .i64 x1) := b8d'.out.cell rfl; have p1 : w9.cell? ⟨g7, 1, none⟩ = some (.int .i64 x2) := b8d'.out.cell rfl; have p2 : w9.cell? ⟨g7, 2, none⟩ = some (.int .i64 x3) := b8d'.out.cell rfl; have p3x : w9.cell? ⟨g7, 3, none⟩ = some (.int .i64 x4) := b8d'.out.cell rfl; have hown9' := Lib.hid hown9; have hb9' := Lib.hid hb9; clear hown9 hb9
            go_wp2_with (at_builtin; refine wpList_app2 rfl _ _ 136 rfl w5.heap.size 62 i0 z0 4 32 Tryz.underlying136 hi0 hz hz1 hz2 hz3 (by decide) _ i _ rfl (World.ownsRow.alloc hown9'.out _) ⟨w9.heap.size, 0, none⟩ 1 1 (entC (x1, x2, x3, x4)) rfl (Sl.new w9 62 4 1 #[.int .i64 x1, .int .i64 x2, .int .i64 x3, .int .i64 x4] (0, 0) (by omega) rfl) (entC_one _) (by omega) (by decide) (by have := hb9'.out.size; simp; omega) ?_; intro a5 c5 wa ob hga hoa; clear hoa; have Ob := Lib.hid ob; have Hba := Lib.hid (below_grown (hb9'.out.alloc hb9'.out.size _) hga (by have := hb9'.out.size; simp; omega) (World.ownsRow.alloc hown9'.out _)); clear ob hga)
            go_roundw
            case rel => exact ⟨i + 1, a5, c5, by omega, by go_num, rfl, Lib.hid (by
              have h := Ob.out; rw [← fl_snoc] at h; rw [List.take_succ_eq_append_getElem (by rw [hEl'.out]; exact hlt), ← getD_el (d := (0, 0, 0, 0)), hx'.out]; exact h), hris2', Hba⟩
            case measure => simp [intOf]; omega
          · obtain ⟨i', hi'⟩ : ∃ i', i' + 1 = i := ⟨i - 1, by omega⟩
            have d5 : ((i : Int) == 0) = false := by simp [hi0]
            have wk : IntKind.i64.wrap ((i : Int) - 1) = (i' : Int) := by rw [IntKind.wrap_i64]; omega
            obtain ⟨bb, oo, rfl, hbb, fe⟩ := (Sl.of_own hown8).1.elem entC_len (by decide) (0, 0, 0, 0) (i := i') (by omega); have e0 := fe 0 _ rfl; rw [Nat.add_zero] at e0
            have hte : (E.take i).getD i' (0, 0, 0, 0) = E.getD i' (0, 0, 0, 0) := by
              rw [List.getD_eq_getElem?_getD, List.getElem?_take, if_pos (by omega), List.getD_eq_getElem?_getD]
            rw [hte] at e0; clear fe hte; have hxx := hx'.out; have hrs : ∀ j, j + 1 < i + 1 → j ≠ i' → (E.getD j (0, 0, 0, 0)).1 < (E.getD (j + 1) (0, 0, 0, 0)).1 := fun j hj hne => hris.out j (by omega); have hno : ¬ (E.getD i' (0, 0, 0, 0)).1 < x1 → risesE E = false := fun hh => risesE_no (i := i') (by rw [hEl'.out]; omega) (by rw [hi', hxx]; exact hh)
            have hyes : (E.getD i' (0, 0, 0, 0)).1 < x1 → ∀ j, j + 1 < i + 1 → (E.getD j (0, 0, 0, 0)).1 < (E.getD (j + 1) (0, 0, 0, 0)).1 := fun hh j hj => by
              by_cases hji : j = i'
              · subst hji; rw [hi', hxx]; exact hh
              · exact hrs j hj hji
            obtain ⟨pv, hpv⟩ : ∃ z, (E.getD i' (0, 0, 0, 0)).1 = z := ⟨_, rfl⟩; rw [hpv] at hno hyes e0; have q5 : ∀ s, (f2 s).cell? ⟨bb, oo + i' * 4, none⟩ = some (.int .i64 pv) := fun s => late (hbel2 s) hbb e0; have hkn2 : (i' : Int) < i := by omega
            have hkn3 : i' < i := by omega
            have hkn4 : (0 : Int) ≤ (i' : Int) := by omega
            clear e0 hpv hrs hi0 hxx; have hown8' := Lib.hid hown8; have hbw8' := Lib.hid hbw8; have b8d' := Lib.hid b8d; have hbel2' := Lib.hid hbel2; have hsurj2' := Lib.hid hsurj2; have hno' := Lib.hid hno; have hyes' := Lib.hid hyes; clear hown8 hbw8 b8d hbel2 hsurj2 hno hyes
            by_cases hpt : pv < x1
            · have p3 : decide (pv < x1) = true := by simp; omega
              have hris2 := hyes'.out hpt; clear hi' hpt; have hris2' := Lib.hid hris2; clear hris2
              go_wp2_with fail
              refine held_begin (S := fun W => ∃ s, W = f2 s) (by kernel_rfl) 14 rfl ?_; refine held_take [0, 1, 2, 3, 4, 5, 6, 7, 8, 9, 10, 11, 12] 1 (by kernel_rfl) (fun d _ _ _ _ h => by cases d <;> exact h) (by kernel_rfl) (by kernel_rfl) (by kernel_rfl) HS.out ?_; simp only [pickL, List.map_cons, List.map_nil, List.getD_cons_succ, List.getD_cons_zero]
              iterate 13 (go_big_quiet_step (fail))
              refine wpQuiet_nil ?_; refine held_one 13 0 (by kernel_rfl) (by kernel_rfl) ?_; simp only [pickL, List.map_cons, List.map_nil, List.getD_cons_succ, List.getD_cons_zero]
              go_wp2_with fail
              refine (must_yes _ _).mono ?_; rintro e w9 ⟨rfl, rfl⟩
              go_wp2_with fail
              first | refine Mid.mk ⟨HS.out, ?_⟩ | refine Mid.mk ?_
              refine held_last (by kernel_rfl) ?_; have hown9 : w8.drew.ownsRow w5.heap.size 62 4 _ i (fl entC (E.take i)) := hown8'.out; have hb9 := hbw8'.out.trans (((Below.refl w8.heap.size w8).drew).mono hbw8'.out.size); clear q0
              try clear q5
              obtain ⟨w9, hw9⟩ : ∃ w9, w8.drew = w9 := ⟨_, rfl⟩; rw [hw9] at b8d' hown9 hb9; rw [hw9]; clear hw9 HS; have p0 : w9.cell? ⟨g7, 0, none⟩ = some (.int .i64 x1) := b8d'.out.cell rfl; have p1 : w9.cell? ⟨g7, 1, none⟩ = some (.int .i64 x2) := b8d'.out.cell rfl; have p2 : w9.cell? ⟨g7, 2, none⟩ = some (.int .i64 x3) := b8d'.out.cell rfl; have p3x : w9.cell? ⟨g7, 3, none⟩ = some (.int .i64 x4) := b8d'.out.cell rfl; have hown9' := Lib.hid hown9; have hb9' := Lib.hid hb9; clear hown9 hb9
              go_wp2_with (at_builtin; refine wpList_app2 rfl _ _ 136 rfl w5.heap.size 62 i0 z0 4 32 Tryz.underlying136 hi0 hz hz1 hz2 hz3 (by decide) _ i _ rfl (World.ownsRow.alloc hown9'.out _) ⟨w9.heap.size, 0, none⟩ 1 1 (entC (x1, x2, x3, x4)) rfl (Sl.new w9 62 4 1 #[.int .i64 x1, .int .i64 x2, .int .i64 x3, .int .i64 x4] (0, 0) (by omega) rfl) (entC_one _) (by omega) (by decide) (by have := hb9'.out.size; simp; omega) ?_; intro a5 c5 wa ob hga hoa; clear hoa; have Ob := Lib.hid ob; have Hba := Lib.hid (below_grown (hb9'.out.alloc hb9'.out.size _) hga (by have := hb9'.out.size; simp; omega) (World.ownsRow.alloc hown9'.out _)); clear ob hga)
              go_roundw
              case rel => exact ⟨i + 1, a5, c5, by omega, by go_num, rfl, Lib.hid (by
                have h := Ob.out; rw [← fl_snoc] at h; rw [List.take_succ_eq_append_getElem (by rw [hEl'.out]; exact hlt), ← getD_el (d := (0, 0, 0, 0)), hx'.out]; exact h), hris2', Hba⟩
              case measure => simp [intOf]; omega
            · have p3 : decide (pv < x1) = false := by simp; omega
              have hR2 := hR'.out; rw [hno'.out hpt] at hR2; obtain rfl : R = .error 2 := by rw [← hR2]; rfl
              clear hi' hpt hR2
              go_wp2_with fail
              refine held_begin (S := fun W => ∃ s, W = f2 s) (by kernel_rfl) 14 rfl ?_; refine held_take [0, 1, 2, 3, 4, 5, 6, 7, 8, 9, 10, 11, 12] 1 (by kernel_rfl) (fun d _ _ _ _ h => by cases d <;> exact h) (by kernel_rfl) (by kernel_rfl) (by kernel_rfl) HS.out ?_; simp only [pickL, List.map_cons, List.map_nil, List.getD_cons_succ, List.getD_cons_zero]
              iterate 13 (go_big_quiet_step (fail))
              refine wpQuiet_nil ?_; refine held_one 13 0 (by kernel_rfl) (by kernel_rfl) ?_; simp only [pickL, List.map_cons, List.map_nil, List.getD_cons_succ, List.getD_cons_zero]
              go_wp2_with fail
              refine (must_no _ _).mono ?_; rintro e w9 ⟨rfl, rfl⟩; refine mid_panic ?_
              go_wp2_with fail
              exact ⟨rfl, rfl, sv1, hmvw'.out.later (hbw8'.out.trans (((Below.refl _ _).drew).mono hbw8'.out.size))⟩
        case refine_2 =>
          go_wp2_with fail
          have hb7 := ((Below.refl wr.heap.size wr).alloc (Nat.le_refl _) (.cells #[.int .i64 0, .int .i64 0, .int .i64 0, .int .i64 0] 62)).drew; have b7 : Blk (wr.alloc (.cells #[.int .i64 0, .int .i64 0, .int .i64 0, .int .i64 0] 62)).drew wr.heap.size 62 #[.int .i64 0, .int .i64 0, .int .i64 0, .int .i64 0] := Blk.new wr _ _; have HS := Lib.hid (hsurj'.out _ hb7); obtain ⟨w3, hw3⟩ : ∃ w3, (wr.alloc (.cells #[.int .i64 0, .int .i64 0, .int .i64 0, .int .i64 0] 62)).drew = w3 := ⟨_, rfl⟩; rw [hw3] at hb7 b7 HS; rw [hw3]; clear hw3; have b7' := Lib.hid b7; have hb7' := Lib.hid hb7; clear b7 hb7
          first | refine Mid.mk ⟨HS.out, ?_⟩ | refine Mid.mk ?_
          refine held_one 15 5 (by kernel_rfl) (by kernel_rfl) ?_; simp only [pickL, List.map_cons, List.map_nil, List.getD_cons_succ, List.getD_cons_zero]
          go_wp2_with fail
          refine (HRd'.out _ hb7'.out).mono ?_; rintro e w7 ⟨rfl, hb6⟩; have hb6x := hb7'.out.trans (hb6.mono hb7'.out.size); have b7 := b7'.out.late hb6; have HS := Lib.hid (hsurj'.out _ hb6x); have hb7 := hb6x; obtain ⟨g7, hg7e⟩ : ∃ g, wr.heap.size = g := ⟨_, rfl⟩; have hg7 : wr.heap.size ≤ g7 := Nat.le_of_eq hg7e; clear b7' hb7' hb6 hb6x; rw [hg7e] at b7; rw [hg7e]; clear hg7e; have b7' := Lib.hid b7; have hb7' := Lib.hid hb7; clear b7 hb7
          go_wp2_with fail
          first | refine Mid.mk ⟨HS.out, ?_⟩ | refine Mid.mk ?_
          refine held_take [16, 17, 18] 2 (by kernel_rfl) (fun d _ _ _ _ h => by cases d <;> exact h) (by kernel_rfl) (by kernel_rfl) (by kernel_rfl) HS.out ?_; simp only [pickL, List.map_cons, List.map_nil, List.getD_cons_succ, List.getD_cons_zero]
          iterate 3 (go_big_quiet_step (fail))
          refine wpQuiet_nil ?_; refine held_one 20 1 (by kernel_rfl) (by kernel_rfl) ?_; simp only [pickL, List.map_cons, List.map_nil, List.getD_cons_succ, List.getD_cons_zero]; have p0 : w7.cell? ⟨g7, 0, none⟩ = some (.int .i64 0) := b7'.out.cell rfl; have p1 : w7.cell? ⟨g7, 1, none⟩ = some (.int .i64 0) := b7'.out.cell rfl; have p2 : w7.cell? ⟨g7, 2, none⟩ = some (.int .i64 0) := b7'.out.cell rfl; have p3 : w7.cell? ⟨g7, 3, none⟩ = some (.int .i64 0) := b7'.out.cell rfl; have y0 := b7'.out.frozen 0; have y1 := b7'.out.frozen 1; have y2 := b7'.out.frozen 2; have y3 := b7'.out.frozen 3
          go_wp2_with fail
          have b8 := b7'.out.set4 (.int .i64 x1) (.int .i64 x2) (.int .i64 x3) (.int .i64 x4); have hb8 := below_set4 hb7'.out hg7 (.int .i64 x1) (.int .i64 x2) (.int .i64 x3) (.int .i64 x4); have HS := Lib.hid (hsurj'.out _ hb8); refine Mid.mk ⟨HS.out, ?_⟩; refine held_take [21] 0 (by kernel_rfl) (fun d _ _ _ _ h => by cases d <;> exact h) (by kernel_rfl) (by kernel_rfl) (by kernel_rfl) HS.out ?_; simp only [pickL, List.map_cons, List.map_nil, List.getD_cons_succ, List.getD_cons_zero]
          iterate 1 (go_big_quiet_step (fail))
          refine wpQuiet_nil ?_; refine held_last (by kernel_rfl) ?_; clear p0 p1 p2 p3 y0 y1 y2 y3 b7' hb7' q0 q1
          generalize ((((w7.setCell ⟨g7, 0, none⟩ (.int .i64 x1)).setCell ⟨g7, 1, none⟩ (.int .i64 x2)).setCell ⟨g7, 2, none⟩ (.int .i64 x3)).setCell ⟨g7, 3, none⟩ (.int .i64 x4)) = w8 at *
          have hown8 := own_later hown.out hb8; have hbw8 := hb.out.trans (hb8.mono hb.out.size); have b8d : Blk w8.drew g7 62 #[.int .i64 x1, .int .i64 x2, .int .i64 x3, .int .i64 x4] := b8; obtain ⟨Ty2, f2, hne2, hbel2, hsurj2⟩ := later_worlds w8; have HS := Lib.hid (hsurj2 _ ((Below.refl _ _).drew)); have q0 : ∀ s, (f2 s).cell? ⟨g7, 0, none⟩ = some (.int .i64 x1) := fun s => (Blk.late b8 (hbel2 s)).cell rfl; clear b8
          by_cases hi0 : i = 0
          · have d5 : ((i : Int) == 0) = true := by simp [hi0]
            have hris2 : ∀ j, j + 1 < i + 1 → (E.getD j (0, 0, 0, 0)).1 < (E.getD (j + 1) (0, 0, 0, 0)).1 := fun j hj => by omega
            clear hi0; have hown8' := Lib.hid hown8; have hbw8' := Lib.hid hbw8; have b8d' := Lib.hid b8d; have hbel2' := Lib.hid hbel2; have hsurj2' := Lib.hid hsurj2; have hris2' := Lib.hid hris2; clear hown8 hbw8 b8d hbel2 hsurj2 hris2
            go_wp2_with fail
            refine held_begin (S := fun W => ∃ s, W = f2 s) (by kernel_rfl) 14 rfl ?_; refine held_take [0, 1, 2, 3, 4, 5, 6, 7, 8, 9, 10, 11, 12] 1 (by kernel_rfl) (fun d _ _ _ _ h => by cases d <;> exact h) (by kernel_rfl) (by kernel_rfl) (by kernel_rfl) HS.out ?_; simp only [pickL, List.map_cons, List.map_nil, List.getD_cons_succ, List.getD_cons_zero]
            iterate 13 (go_big_quiet_step (fail))
            refine wpQuiet_nil ?_; refine held_one 13 0 (by kernel_rfl) (by kernel_rfl) ?_; simp only [pickL, List.map_cons, List.map_nil, List.getD_cons_succ, List.getD_cons_zero]
            go_wp2_with fail
            refine (must_yes _ _).mono ?_; rintro e w9 ⟨rfl, rfl⟩
            go_wp2_with fail
            first | refine Mid.mk ⟨HS.out, ?_⟩ | refine Mid.mk ?_
            refine held_last (by kernel_rfl) ?_; have hown9 : w8.drew.ownsRow w5.heap.size 62 4 _ i (fl entC (E.take i)) := hown8'.out; have hb9 := hbw8'.out.trans (((Below.refl w8.heap.size w8).drew).mono hbw8'.out.size); clear q0
            try clear q5
            obtain ⟨w9, hw9⟩ : ∃ w9, w8.drew = w9 := ⟨_, rfl⟩; rw [hw9] at b8d' hown9 hb9; rw [hw9]; clear hw9 HS; have p0 : w9.cell? ⟨g7, 0, none⟩ = some (.int .i64 x1) := b8d'.out.cell rfl; have p1 : w9.cell? ⟨g7, 1, none⟩ = some (.int .i64 x2) := b8d'.out.cell rfl; have p2 : w9.cell? ⟨g7, 2, none⟩ = some (.int .i64 x3) := b8d'.out.cell rfl; have p3x : w9.cell? ⟨g7, 3, none⟩ = some (.int .i64 x4) := b8d'.out.cell rfl; have hown9' := Lib.hid hown9; have hb9' := Lib.hid hb9; clear hown9 hb9
            go_wp2_with (at_builtin; refine wpList_app2 rfl _ _ 136 rfl w5.heap.size 62 i0 z0 4 32 Tryz.underlying136 hi0 hz hz1 hz2 hz3 (by decide) _ i _ rfl (World.ownsRow.alloc hown9'.out _) ⟨w9.heap.size, 0, none⟩ 1 1 (entC (x1, x2, x3, x4)) rfl (Sl.new w9 62 4 1 #[.int .i64 x1, .int .i64 x2, .int .i64 x3, .int .i64 x4] (0, 0) (by omega) rfl) (entC_one _) (by omega) (by decide) (by have := hb9'.out.size; simp; omega) ?_; intro a5 c5 wa ob hga hoa; clear hoa; have Ob := Lib.hid ob; have Hba := Lib.hid (below_grown (hb9'.out.alloc hb9'.out.size _) hga (by have := hb9'.out.size; simp; omega) (World.ownsRow.alloc hown9'.out _)); clear ob hga)
            go_roundw
            case rel => exact ⟨i + 1, a5, c5, by omega, by go_num, rfl, Lib.hid (by
              have h := Ob.out; rw [← fl_snoc] at h; rw [List.take_succ_eq_append_getElem (by rw [hEl'.out]; exact hlt), ← getD_el (d := (0, 0, 0, 0)), hx'.out]; exact h), hris2', Hba⟩
            case measure => simp [intOf]; omega
          · obtain ⟨i', hi'⟩ : ∃ i', i' + 1 = i := ⟨i - 1, by omega⟩
            have d5 : ((i : Int) == 0) = false := by simp [hi0]
            have wk : IntKind.i64.wrap ((i : Int) - 1) = (i' : Int) := by rw [IntKind.wrap_i64]; omega
            obtain ⟨bb, oo, rfl, hbb, fe⟩ := (Sl.of_own hown8).1.elem entC_len (by decide) (0, 0, 0, 0) (i := i') (by omega); have e0 := fe 0 _ rfl; rw [Nat.add_zero] at e0
            have hte : (E.take i).getD i' (0, 0, 0, 0) = E.getD i' (0, 0, 0, 0) := by
              rw [List.getD_eq_getElem?_getD, List.getElem?_take, if_pos (by omega), List.getD_eq_getElem?_getD]
            rw [hte] at e0; clear fe hte; have hxx := hx'.out; have hrs : ∀ j, j + 1 < i + 1 → j ≠ i' → (E.getD j (0, 0, 0, 0)).1 < (E.getD (j + 1) (0, 0, 0, 0)).1 := fun j hj hne => hris.out j (by omega); have hno : ¬ (E.getD i' (0, 0, 0, 0)).1 < x1 → risesE E = false := fun hh => risesE_no (i := i') (by rw [hEl'.out]; omega) (by rw [hi', hxx]; exact hh)
            have hyes : (E.getD i' (0, 0, 0, 0)).1 < x1 → ∀ j, j + 1 < i + 1 → (E.getD j (0, 0, 0, 0)).1 < (E.getD (j + 1) (0, 0, 0, 0)).1 := fun hh j hj => by
              by_cases hji : j = i'
              · subst hji; rw [hi', hxx]; exact hh
              · exact hrs j hj hji
            obtain ⟨pv, hpv⟩ : ∃ z, (E.getD i' (0, 0, 0, 0)).1 = z := ⟨_, rfl⟩; rw [hpv] at hno hyes e0; have q5 : ∀ s, (f2 s).cell? ⟨bb, oo + i' * 4, none⟩ = some (.int .i64 pv) := fun s => late (hbel2 s) hbb e0; have hkn2 : (i' : Int) < i := by omega
            have hkn3 : i' < i := by omega
            have hkn4 : (0 : Int) ≤ (i' : Int) := by omega
            clear e0 hpv hrs hi0 hxx; have hown8' := Lib.hid hown8; have hbw8' := Lib.hid hbw8; have b8d' := Lib.hid b8d; have hbel2' := Lib.hid hbel2; have hsurj2' := Lib.hid hsurj2; have hno' := Lib.hid hno; have hyes' := Lib.hid hyes; clear hown8 hbw8 b8d hbel2 hsurj2 hno hyes
            by_cases hpt : pv < x1
            · have p3 : decide (pv < x1) = true := by simp; omega
              have hris2 := hyes'.out hpt; clear hi' hpt; have hris2' := Lib.hid hris2; clear hris2
              go_wp2_with fail
              refine held_begin (S := fun W => ∃ s, W = f2 s) (by kernel_rfl) 14 rfl ?_; refine held_take [0, 1, 2, 3, 4, 5, 6, 7, 8, 9, 10, 11, 12] 1 (by kernel_rfl) (fun d _ _ _ _ h => by cases d <;> exact h) (by kernel_rfl) (by kernel_rfl) (by kernel_rfl) HS.out ?_; simp only [pickL, List.map_cons, List.map_nil, List.getD_cons_succ, List.getD_cons_zero]
              iterate 13 (go_big_quiet_step (fail))
              refine wpQuiet_nil ?_; refine held_one 13 0 (by kernel_rfl) (by kernel_rfl) ?_; simp only [pickL, List.map_cons, List.map_nil, List.getD_cons_succ, List.getD_cons_zero]
              go_wp2_with fail
              refine (must_yes _ _).mono ?_; rintro e w9 ⟨rfl, rfl⟩
              go_wp2_with fail
              first | refine Mid.mk ⟨HS.out, ?_⟩ | refine Mid.mk ?_
              refine held_last (by kernel_rfl) ?_; have hown9 : w8.drew.ownsRow w5.heap.size 62 4 _ i (fl entC (E.take i)) := hown8'.out; have hb9 := hbw8'.out.trans (((Below.refl w8.heap.size w8).drew).mono hbw8'.out.size); clear q0
              try clear q5
              obtain ⟨w9, hw9⟩ : ∃ w9, w8.drew = w9 := ⟨_, rfl⟩; rw [hw9] at b8d' hown9 hb9; rw [hw9]; clear hw9 HS; have p0 : w9.cell? ⟨g7, 0, none⟩ = some (.int .i64 x1) := b8d'.out.cell rfl; have p1 : w9.cell? ⟨g7, 1, none⟩ = some (.int .i64 x2) := b8d'.out.cell rfl; have p2 : w9.cell? ⟨g7, 2, none⟩ = some (.int .i64 x3) := b8d'.out.cell rfl; have p3x : w9.cell? ⟨g7, 3, none⟩ = some (.int .i64 x4) := b8d'.out.cell rfl; have hown9' := Lib.hid hown9; have hb9' := Lib.hid hb9; clear hown9 hb9
              go_wp2_with (at_builtin; refine wpList_app2 rfl _ _ 136 rfl w5.heap.size 62 i0 z0 4 32 Tryz.underlying136 hi0 hz hz1 hz2 hz3 (by decide) _ i _ rfl (World.ownsRow.alloc hown9'.out _) ⟨w9.heap.size, 0, none⟩ 1 1 (entC (x1, x2, x3, x4)) rfl (Sl.new w9 62 4 1 #[.int .i64 x1, .int .i64 x2, .int .i64 x3, .int .i64 x4] (0, 0) (by omega) rfl) (entC_one _) (by omega) (by decide) (by have := hb9'.out.size; simp; omega) ?_; intro a5 c5 wa ob hga hoa; clear hoa; have Ob := Lib.hid ob; have Hba := Lib.hid (below_grown (hb9'.out.alloc hb9'.out.size _) hga (by have := hb9'.out.size; simp; omega) (World.ownsRow.alloc hown9'.out _)); clear ob hga)
              go_roundw
              case rel => exact ⟨i + 1, a5, c5, by omega, by go_num, rfl, Lib.hid (by
                have h := Ob.out; rw [← fl_snoc] at h; rw [List.take_succ_eq_append_getElem (by rw [hEl'.out]; exact hlt), ← getD_el (d := (0, 0, 0, 0)), hx'.out]; exact h), hris2', Hba⟩
              case measure => simp [intOf]; omega
            · have p3 : decide (pv < x1) = false := by simp; omega
              have hR2 := hR'.out; rw [hno'.out hpt] at hR2; obtain rfl : R = .error 2 := by rw [← hR2]; rfl
              clear hi' hpt hR2
              go_wp2_with fail
              refine held_begin (S := fun W => ∃ s, W = f2 s) (by kernel_rfl) 14 rfl ?_; refine held_take [0, 1, 2, 3, 4, 5, 6, 7, 8, 9, 10, 11, 12] 1 (by kernel_rfl) (fun d _ _ _ _ h => by cases d <;> exact h) (by kernel_rfl) (by kernel_rfl) (by kernel_rfl) HS.out ?_; simp only [pickL, List.map_cons, List.map_nil, List.getD_cons_succ, List.getD_cons_zero]
              iterate 13 (go_big_quiet_step (fail))
              refine wpQuiet_nil ?_; refine held_one 13 0 (by kernel_rfl) (by kernel_rfl) ?_; simp only [pickL, List.map_cons, List.map_nil, List.getD_cons_succ, List.getD_cons_zero]
              go_wp2_with fail
              refine (must_no _ _).mono ?_; rintro e w9 ⟨rfl, rfl⟩; refine mid_panic ?_
              go_wp2_with fail
              exact ⟨rfl, rfl, sv1, hmvw'.out.later (hbw8'.out.trans (((Below.refl _ _).drew).mono hbw8'.out.size))⟩
      · obtain rfl : i = k := by omega
        have hR2 := hR'.out; rw [risesE_yes (fun j hj => hris.out j (by rw [hEl'.out] at hj; exact hj))] at hR2; obtain rfl : R = .ok (E, s1) := by rw [← hR2]; rfl
        clear hR2
        go_wp2_with fail
        go_ret
        refine ⟨sv1, tk1, hok1'.out.later hb.out, hmvw'.out.later hb.out, a, i, c, rfl, ?_, fun kk e h => ?_⟩
        · have h := hown.out
          rw [List.take_of_length_le (by rw [hEl'.out]; exact Nat.le_refl _)] at h; rw [hEl'.out]; exact own_mono h hw5
        · have h1 := (hown.out.lt kk e).1
          have h2 := (hok1'.out.spot.lt kk h).2
          omega
end Go.Proofs.YtilennmeiaehnaaGreat
