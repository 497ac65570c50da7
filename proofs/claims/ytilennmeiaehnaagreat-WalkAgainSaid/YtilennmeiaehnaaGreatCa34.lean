/- Chapter 22: the value of an entry. -/
import Derived.Test.YtilennmeiaehnaaGreatCa33
import Derived.Test.YtilennmeiaehnaaGreatCa10
namespace Tt
open Go Go.RowKit
theorem Mv.new_set {g gt h : Nat} {sv s1 : Value} {w w8 w9 : World} (m : Mv g gt sv s1 w w8) (hh : w.heap.size ≤ h) (b : But h w8 w9) : Mv g gt sv s1 w w9 :=
  ⟨b.os.trans m.os, b.tape.trans m.tape, b.output.trans m.output, Nat.le_trans m.size b.size, fun k hk h1 h2 h3 => (b.block k (Nat.lt_of_lt_of_le hk m.size) (by omega)).trans (m.block k hk h1 h2 h3), m.own⟩
end Tt
namespace Go.Proofs.YtilennmeiaehnaaGreat
open Go.RowKit Tt
set_option linter.unusedVariables false
set_option linter.unusedSimpArgs false

theorem WkOk.but {K : WkS} {s : St} {sv : Value} {tk : List Nat} {w w' : World} {h : Nat} (ok : WkOk K s sv tk w) (b : But h w w') (h1 : h ≠ K.g) (h2 : h ≠ K.gt) (h3 : sv.ownBlock ≠ some h) (h4 : K.w0.heap.size ≤ h) : WkOk K s sv tk w' :=
  ⟨ok.old.trans (b.below h4 ok.old.size), ok.blk.but b (Ne.symm h1), Blk.but (T := 188) ok.tak b (Ne.symm h2), ok.tkl, ok.tkb, ok.bits, own_but ok.spot b h3, ok.sg, ok.sgt⟩
/-- how a tag is handed back -/
def TagIs (w : World) (v : Tgs) (sv' : Value) (e : Ending) (w' : World) : Prop :=
  ∃ a m c, e = .returned (.agg #[.int .i64 v.1, .int .i64 v.2.1, .int .i64 v.2.2.1, .slice a m c]) ∧ Ck (fun k => sv'.ownBlock = some k) w.heap.size w' (.slice a m c) 5 1 v.2.2.2.length (ints .u8 v.2.2.2)
set_option maxRecDepth 20000 in
set_option maxHeartbeats 8000000 in
theorem value2_any (K : WkS) (t : WkT K) (ho : K.o = 1 ∨ K.o = 2) (s : St) (sv : Value) (tk : List Nat) (w : World) (x : Ent) (no : Int) (hok : WkOk K s sv tk w) (h0 : 0 ≤ x.2.2.2) (h1 : x.2.2.2 ≤ 4294967295) (hsm : s.spots.length ≤ 4294967295) :
    Calls Tryz.prog 161 #[.pointer (some ⟨K.g, 0, none⟩), entV x, .int .i64 no] w (WPost K sv w (valueS K.z K.o x no s) (TagIs w)) := by
  obtain ⟨tg, ty, cnt, sl⟩ := x; simp only at h0 h1; obtain ⟨S, rfl⟩ : ∃ S : Nat, sl = S := ⟨sl.toNat, by omega⟩; have hn := t.n1; have hzl := t.hs.ilen; obtain ⟨R, hR⟩ : ∃ R, valueS K.z K.o (tg, ty, cnt, (S : Int)) no s = R := ⟨_, rfl⟩; rw [hR]; unfold valueS at hR; simp only at hR; rw [hzl, Int.toNat_natCast] at hR; have hSz := fun W => size_any ty W; have hOu := fun W => out_any ty cnt W; have hou : 0 ≤ outS ty cnt ∧ outS ty cnt ≤ 524288 := by unfold outS; have := longS_le ty cnt; split <;> omega
  obtain ⟨sz, hsz⟩ : ∃ v, (kindS ty).1 = v := ⟨_, rfl⟩; obtain ⟨L, hL⟩ : ∃ L : Nat, outS ty cnt = L := ⟨(outS ty cnt).toNat, by omega⟩; rw [hsz] at hR hSz; rw [hL] at hR hOu hou; have hL5 : L ≤ 524288 := by omega
  unfold entV; simp only; obtain ⟨W, hW⟩ : ∃ W, (w.alloc (.cells #[.int .i64 tg, .int .i64 ty, .int .i64 cnt, .int .i64 S] 62)).alloc (.cells #[.int .i64 0, .int .i64 0, .int .i64 0, .slice none 0 0] 78) = W := ⟨_, rfl⟩; have bx : Blk W w.heap.size 62 #[.int .i64 tg, .int .i64 ty, .int .i64 cnt, .int .i64 S] := by rw [← hW]; exact (Blk.new w _ _).alloc _
  have b0 : Blk W (w.heap.size + 1) 78 #[.int .i64 0, .int .i64 0, .int .i64 0, .slice none 0 0] := by rw [← hW]; exact heap_new' _ _ (by simp)
  have hbW : Below w.heap.size w W := by rw [← hW]; exact (((Below.refl w.heap.size w).alloc (Nat.le_refl _) _).alloc (by simp) _)
  have hltW := b0.lt; have k1 : W.cell? ⟨w.heap.size, 1, none⟩ = some (.int .i64 ty) := bx.cell rfl; have hgw : K.g < w.heap.size := hok.blk.lt; have hgtw : K.gt < w.heap.size := Blk.lt (T := 188) hok.tak; have hsvw : ∀ k, sv.ownBlock = some k → k < w.heap.size := fun k e => (hok.spot.lt k e).2; clear hsz hL; have hok' := Lib.hid hok; have t' := Lib.hid t; have hSz' := Lib.hid hSz; have hOu' := Lib.hid hOu; have bx' := Lib.hid bx; have b0' := Lib.hid b0; have hbW' := Lib.hid hbW; have hR' := Lib.hid hR; have hzl' := Lib.hid hzl; have hsvw' := Lib.hid hsvw; clear hok t hSz hOu bx b0 hbW hR hzl hsvw
  go_enter Tryz.func161, Tryz.ntmps161
  go_upto_region 1 with fail
  try rw [hW]
  clear hW
  go_wp2_with fail
  refine (hSz'.out _).mono ?_; rintro e w1 ⟨rfl, hb1⟩; have bx1 := bx'.out.late hb1; have b01 := b0'.out.late hb1; have hbw1 := hbW'.out.trans (hb1.mono hbW'.out.size); have hlt1 := b01.lt; clear k1; have k1 : w1.cell? ⟨w.heap.size, 1, none⟩ = some (.int .i64 ty) := bx1.cell rfl; have k2 : w1.cell? ⟨w.heap.size, 2, none⟩ = some (.int .i64 cnt) := bx1.cell rfl; clear hb1 bx' b0' hbW' hltW; have bx1' := Lib.hid bx1; have b01' := Lib.hid b01; have hbw1' := Lib.hid hbw1; clear bx1 b01 hbw1
  by_cases hc : 0 < sz ∧ 1 ≤ cnt ∧ cnt ≤ 65536
  case neg =>
    obtain rfl : R = .error 6 := by rw [← hR'.out, if_neg hc]
    by_cases hc1 : 0 < sz
    · have d1 : decide (0 < sz) = true := by simp; omega
      by_cases hc2 : 1 ≤ cnt
      · have d2 : decide (1 ≤ cnt) = true := by simp; omega
        have d3 : decide (cnt ≤ 65536) = false := by simp; omega
        clear hc hc1 hc2
        go_wp2_with (go_at_call 122; refine (must_any _ _ _).mono ?_; rintro e w3 ⟨rfl, rfl⟩; simp only [mustE_t, mustE_f])
        exact ⟨rfl, rfl, sv, Mv.of_below hbw1'.out⟩
      · have d2 : decide (1 ≤ cnt) = false := by simp; omega
        clear hc hc1 hc2
        go_wp2_with (go_at_call 122; refine (must_any _ _ _).mono ?_; rintro e w3 ⟨rfl, rfl⟩; simp only [mustE_t, mustE_f])
        exact ⟨rfl, rfl, sv, Mv.of_below hbw1'.out⟩
    · have d1 : decide (0 < sz) = false := by simp; omega
      clear hc hc1
      go_wp2_with (go_at_call 122; refine (must_any _ _ _).mono ?_; rintro e w3 ⟨rfl, rfl⟩; simp only [mustE_t, mustE_f])
      exact ⟨rfl, rfl, sv, Mv.of_below hbw1'.out⟩
  case pos =>
    have d1 : decide (0 < sz) = true := by simp; omega
    have d2 : decide (1 ≤ cnt) = true := by simp; omega
    have d3 : decide (cnt ≤ 65536) = true := by simp; omega
    replace hR' := Lib.hid (by have h := hR'.out; rw [if_pos hc] at h; exact h)
    clear hc
    go_wp2_with (go_at_call 122; refine (must_any _ _ _).mono ?_; rintro e w3 ⟨rfl, rfl⟩; simp only [mustE_t, mustE_f])
    refine (hOu'.out _).mono ?_; rintro e w2 ⟨rfl, hb2⟩; have bx2 := bx1'.out.late hb2; have b02 := b01'.out.late hb2; have hbw2 := hbw1'.out.trans (hb2.mono hbw1'.out.size); have hlt2 := b02.lt; have hok2 := hok'.out.later hbw2; clear k1 k2 hb2 bx1' b01' hbw1' hlt1; have k0 : w2.cell? ⟨w.heap.size, 0, none⟩ = some (.int .i64 tg) := bx2.cell rfl; have k3 : w2.cell? ⟨w.heap.size, 3, none⟩ = some (.int .i64 S) := bx2.cell rfl; have bx2' := Lib.hid bx2; have b02' := Lib.hid b02; have hbw2' := Lib.hid hbw2; have hok2' := Lib.hid hok2; clear bx2 b02 hbw2 hok2
    by_cases hL0 : 0 < (L : Int)
    case pos =>
      have d4 : decide (0 < (L : Int)) = true := by simp; omega
      have d5 : decide (0 < L) = true := by simp; omega
      replace hR' := Lib.hid (by have h := hR'.out; rw [if_pos hL0] at h; exact h)
      have HT := take_any K t'.out s sv tk w2 (3, no, tg, (S : Int), (L : Int)) hok2'.out S L rfl rfl (by omega) (by omega) hsm; obtain ⟨T, hT⟩ : ∃ T, takeS K.n (3, no, tg, (S : Int), (L : Int)) s = T := ⟨_, rfl⟩; have hR3 := hR'.out; rw [hT] at HT hR3; clear hR'; have HT' := Lib.hid HT; have hR3' := Lib.hid hR3; clear HT hR3
      go_wp2_with fail
      refine HT'.out.mono ?_; rintro e w5 hpost
      cases T with
      | error y =>
        obtain rfl : R = .error y := by rw [← hR3'.out]
        obtain ⟨rfl, sv', hmv⟩ := hpost; clear hR3' hT HT'; have hmv' := Lib.hid hmv; clear hmv
        go_wp2_with fail
        exact ⟨rfl, rfl, sv', (Mv.of_below hbw2'.out).trans hmv'.out⟩
      | ok s1 =>
        obtain ⟨sv1, tk1, hok1, hmv1, rfl⟩ := hpost
        have hfit : S + L ≤ K.n := by
          have := takeS_fit hT; unfold fitB roomB at this
          simp at this
          omega
        have hR4 := hR3'.out; simp only at hR4; have bx5 := bx2'.out.mv hmv1 (by omega) (by omega) (fun e => by have := hsvw'.out _ e; omega); have b05 := b02'.out.mv hmv1 (by omega) (by omega) (fun e => by have := hsvw'.out _ e; omega); have hmvw := (Mv.of_below hbw2'.out).trans hmv1; have hsv1 : sv1.ownBlock ≠ some (w.heap.size + 1) := fun e => by rcases hmv1.own _ e with h | h <;> first | (have := hsvw'.out _ h; omega) | omega
        have hb5 := hok1.byts t'.out; clear hR3' hT HT' k0 k3 hmv1 bx2' b02' hbw2' hok2'; have hle := hb5.le; obtain ⟨a7, hsl, hs7, hin7⟩ := sub_l (P := Tryz.prog) (T := 30) (E := 5) (sz := 1) Tryz.underlying30 (fun W => by kernel_rfl) hb5 (S : Int) (by omega) (by omega) (K.n - S) (K.c - S) (by omega) (by omega); rw [Nat.mul_one, Int.toNat_natCast, show (ints .u8 K.z).drop S = ints .u8 (K.z.drop S) by simp [ints]] at hs7; obtain ⟨Ty, f, hne, hbel, hsurj⟩ := later_worlds w5; have q0 : ∀ s, (f s).cell? ⟨K.g, 0, none⟩ = some (.slice K.a K.n K.c) := fun s => (Blk.late hok1.blk (hbel s)).cell rfl; have q1 : ∀ s, (f s).cell? ⟨K.g, 1, none⟩ = some (.int .i64 K.o) := fun s => (Blk.late hok1.blk (hbel s)).cell rfl; have r1 : ∀ s, (f s).cell? ⟨w.heap.size, 1, none⟩ = some (.int .i64 ty) := fun s => (Blk.late bx5 (hbel s)).cell rfl; have r2 : ∀ s, (f s).cell? ⟨w.heap.size, 2, none⟩ = some (.int .i64 cnt) := fun s => (Blk.late bx5 (hbel s)).cell rfl; have r3 : ∀ s, (f s).cell? ⟨w.heap.size, 3, none⟩ = some (.int .i64 S) := fun s => (Blk.late bx5 (hbel s)).cell rfl; have HS := Lib.hid (hsurj _ ((Below.refl _ _).drew)); have HD := Lib.hid ((Below.refl w5.heap.size w5).drew); have HO := fun W (h : Below w5.heap.size w5 W) => of_any ty cnt a7 (K.n - S) (K.c - S) (K.z.drop S) K.o W (hs7.mono h) (t'.out.byt.drop _); have hw5 : w.heap.size + 1 < w5.heap.size := b05.lt; obtain ⟨V, hV⟩ : ∃ V, ofS ty cnt (K.z.drop S) K.o = V := ⟨_, rfl⟩; rw [hV] at HO hR4; clear hV; have hbel' := Lib.hid hbel; have hsurj' := Lib.hid hsurj; have hs7' := Lib.hid hs7; have hin7' := Lib.hid hin7; have HO' := Lib.hid HO; have hok1' := Lib.hid hok1; have bx5' := Lib.hid bx5; have b05' := Lib.hid b05; have hmvw' := Lib.hid hmvw; have hb5' := Lib.hid hb5; have hR4' := Lib.hid hR4; clear hbel hsurj hs7 hin7 HO hok1 bx5 b05 hmvw hb5 hR4
        go_wp2_with fail
        refine held_begin (S := fun W => ∃ s, W = f s) (by kernel_rfl) 24 rfl ?_; refine held_take [0, 1, 2, 3, 4, 5, 6, 7, 8, 9, 10, 11, 12, 13, 14, 15, 16] 7 (by kernel_rfl) (fun d _ _ _ _ h => by cases d <;> exact h) (by kernel_rfl) (by kernel_rfl) (by kernel_rfl) HS.out ?_; simp only [pickL, List.map_cons, List.map_nil, List.getD_cons_succ, List.getD_cons_zero]
        iterate 17 (go_big_quiet_step (fail))
        refine wpQuiet_nil ?_; refine held_two 17 21 6 (by kernel_rfl) (by kernel_rfl) ?_ ?_
        all_goals simp only [pickL, List.map_cons, List.map_nil, List.getD_cons_succ, List.getD_cons_zero]
        case refine_1 =>
          go_wp2_with fail
          refine (HO'.out _ HD.out).mono ?_; rintro e w6 ⟨ty', cnt', a3, m3, c3, rfl, hb6, hd6⟩; have hb6 := HD.out.trans (hb6.mono HD.out.size); have HS := Lib.hid (hsurj'.out _ hb6); have hb6' := Lib.hid hb6; have hd6' := Lib.hid hd6; clear hb6 hd6
          go_wp2_with fail
          first | refine Mid.mk ⟨HS.out, ?_⟩ | refine Mid.mk ?_
          refine held_take [18, 19, 20] 3 (by kernel_rfl) (fun d _ _ _ _ h => by cases d <;> exact h) (by kernel_rfl) (by kernel_rfl) (by kernel_rfl) HS.out ?_; simp only [pickL, List.map_cons, List.map_nil, List.getD_cons_succ, List.getD_cons_zero]
          iterate 3 (go_big_quiet_step (fail))
          refine wpQuiet_nil ?_; refine held_one 21 2 (by kernel_rfl) (by kernel_rfl) ?_; simp only [pickL, List.map_cons, List.map_nil, List.getD_cons_succ, List.getD_cons_zero]
          go_wp2_with fail
          have hal := (Below.refl w6.heap.size w6).alloc (Nat.le_refl _) (.cells #[.int .i64 0, .int .i64 0, .slice none 0 0] 76); have b7 := Blk.new w6 76 #[.int .i64 0, .int .i64 0, .slice none 0 0]; have hb7 := hb6'.out.trans (hal.mono hb6'.out.size); have hg7 : w5.heap.size ≤ w6.heap.size := hb6'.out.size; have hd7 := fun d h => (⟨(hd6'.out d h).1, (hd6'.out d h).2.1, own_later (hd6'.out d h).2.2 hal, fun e => by have := ((hd6'.out d h).2.2.lt _ e).2; omega⟩ : ty' = ty ∧ cnt' = cnt ∧ World.ownsRow _ _ _ _ _ _ _ ∧ (Value.slice a3 m3 c3).ownBlock ≠ some w6.heap.size); clear hal
          generalize w6.alloc (.cells #[.int .i64 0, .int .i64 0, .slice none 0 0] 76) = w7 at *
          generalize w6.heap.size = g7 at *
          have HS := Lib.hid (hsurj'.out _ hb7); clear hb6' hd6'; have b7' := Lib.hid b7; have hb7' := Lib.hid hb7; have hd7' := Lib.hid hd7; clear b7 hb7 hd7
          first | refine Mid.mk ⟨HS.out, ?_⟩ | refine Mid.mk ?_
          refine held_one 22 1 (by kernel_rfl) (by kernel_rfl) ?_; simp only [pickL, List.map_cons, List.map_nil, List.getD_cons_succ, List.getD_cons_zero]; have p0 : w7.cell? ⟨g7, 0, none⟩ = some (.int .i64 0) := b7'.out.cell rfl; have p1 : w7.cell? ⟨g7, 1, none⟩ = some (.int .i64 0) := b7'.out.cell rfl; have p2 : w7.cell? ⟨g7, 2, none⟩ = some (.slice none 0 0) := b7'.out.cell rfl; have y0 := b7'.out.frozen 0; have y1 := b7'.out.frozen 1; have y2 := b7'.out.frozen 2
          go_wp2_with fail
          have b8 := b7'.out.set3 (.int .i64 ty') (.int .i64 cnt') (.slice a3 m3 c3); have hb8 := below_set3 hb7'.out hg7 (.int .i64 ty') (.int .i64 cnt') (.slice a3 m3 c3); have HS := Lib.hid (hsurj'.out _ hb8); have hd8 := fun d h => (⟨(hd7'.out d h).1, (hd7'.out d h).2.1, own_but (hd7'.out d h).2.2.1 ((((But.refl g7 w7).set 0 (.int .i64 ty')).set 1 (.int .i64 cnt')).set 2 (.slice a3 m3 c3)) (hd7'.out d h).2.2.2⟩ : ty' = ty ∧ cnt' = cnt ∧ World.ownsRow _ _ _ _ _ _ _); refine Mid.mk ⟨HS.out, ?_⟩; refine held_take [23] 0 (by kernel_rfl) (fun d _ _ _ _ h => by cases d <;> exact h) (by kernel_rfl) (by kernel_rfl) (by kernel_rfl) HS.out ?_; simp only [pickL, List.map_cons, List.map_nil, List.getD_cons_succ, List.getD_cons_zero]
          iterate 1 (go_big_quiet_step (fail))
          refine wpQuiet_nil ?_; refine held_last (by kernel_rfl) ?_; clear p0 p1 p2 y0 y1 y2 b7' hb7' hd7' q0 q1 r1 r2 r3 HS
          generalize (((w7.setCell ⟨g7, 0, none⟩ (.int .i64 ty')).setCell ⟨g7, 1, none⟩ (.int .i64 cnt')).setCell ⟨g7, 2, none⟩ (.slice a3 m3 c3)) = w8 at *
          have bx8 := bx5'.out.late hb8; have b08 := b05'.out.late hb8; have hok8 := hok1'.out.later hb8; have hmv8 := hmvw'.out.later hb8; have hw8 := hb8.size
          cases V with
          | none =>
            obtain rfl : R = .error 6 := by rw [← hR4'.out]
            simp only [Option.isSome_none] at *; clear hd8; have b8' := Lib.hid b8; have hb8' := Lib.hid hb8; have bx8' := Lib.hid bx8; have b08' := Lib.hid b08; have hok8' := Lib.hid hok8; have hmv8' := Lib.hid hmv8; clear b8 hb8 bx8 b08 hok8 hmv8
            go_wp2_with (go_at_call 122; refine (must_any _ _ _).mono ?_; rintro e w3 ⟨rfl, rfl⟩; simp only [mustE_t, mustE_f])
            exact ⟨rfl, rfl, sv1, hmv8'.out⟩
          | some d =>
            obtain ⟨rfl, rfl, hod⟩ := hd8 d rfl; obtain rfl : R = .ok ((tg, ty', cnt', d), s1) := by rw [← hR4'.out]
            have hm3 := (Sl.of_own hod).1.ilen; simp only [Option.isSome_some] at *; have t0 : w8.cell? ⟨w.heap.size, 0, none⟩ = some (.int .i64 tg) := bx8.cell rfl; have v0 : w8.cell? ⟨g7, 0, none⟩ = some (.int .i64 ty') := b8.cell rfl; have v1 : w8.cell? ⟨g7, 1, none⟩ = some (.int .i64 cnt') := b8.cell rfl; have v2 : w8.cell? ⟨g7, 2, none⟩ = some (.slice a3 m3 c3) := b8.cell rfl; have p0 : w8.cell? ⟨w.heap.size + 1, 0, none⟩ = some (.int .i64 0) := b08.cell rfl; have p1 : w8.cell? ⟨w.heap.size + 1, 1, none⟩ = some (.int .i64 0) := b08.cell rfl; have p2 : w8.cell? ⟨w.heap.size + 1, 2, none⟩ = some (.int .i64 0) := b08.cell rfl; have p3 : w8.cell? ⟨w.heap.size + 1, 3, none⟩ = some (.slice none 0 0) := b08.cell rfl; have y0 := b08.frozen 0; have y1 := b08.frozen 1; have y2 := b08.frozen 2; have y3 := b08.frozen 3; clear hd8; have b8' := Lib.hid b8; have hb8' := Lib.hid hb8; have bx8' := Lib.hid bx8; have b08' := Lib.hid b08; have hok8' := Lib.hid hok8; have hmv8' := Lib.hid hmv8; have hod' := Lib.hid hod; have hm3' := Lib.hid hm3; clear b8 hb8 bx8 b08 hok8 hmv8 hod hm3
            go_wp2_with (go_at_call 122; refine (must_any _ _ _).mono ?_; rintro e w3 ⟨rfl, rfl⟩; simp only [mustE_t, mustE_f])
            refine bodyPost_ret (results_cell_row rfl _ _ (w.heap.size + 1) 78 #[.int .i64 tg, .int .i64 ty', .int .i64 cnt', .slice a3 m3 c3] (0, 0) _ rfl (b08'.out.set4 _ _ _ _) Tryz.underlying78 rfl (by kernel_rfl)) rfl ?_; have hbt := (((((But.refl (w.heap.size + 1) w8).set 0 (.int .i64 tg)).set 1 (.int .i64 ty')).set 2 (.int .i64 cnt')).set 3 (.slice a3 m3 c3)); have hdr5 : w5.drew.heap.size = w5.heap.size := rfl; refine ⟨sv1, tk1, hok8'.out.but hbt (by omega) (by omega) hsv1 (Nat.le_trans hok'.out.old.size (Nat.le_succ _)), hmv8'.out.new_set (Nat.le_succ _) hbt, a3, m3, c3, rfl, ?_, fun kk e h => ?_⟩
            · have h := own_but hod'.out hbt (fun e => by have := (hod'.out.lt _ e).1; omega)
              rw [hm3'.out]; exact own_mono h (by omega)
            · have h1 := (hod'.out.lt kk e).1
              have h2 := (hok1'.out.spot.lt kk h).2
              omega
        case refine_2 =>
          go_wp2_with fail
          have hb7 := ((Below.refl w5.heap.size w5).alloc (Nat.le_refl _) (.cells #[.int .i64 0, .int .i64 0, .slice none 0 0] 76)).drew; have b7 : Blk (w5.alloc (.cells #[.int .i64 0, .int .i64 0, .slice none 0 0] 76)).drew w5.heap.size 76 #[.int .i64 0, .int .i64 0, .slice none 0 0] := Blk.new w5 _ _; have HS := Lib.hid (hsurj'.out _ hb7); have hsz3 : (w5.alloc (.cells #[.int .i64 0, .int .i64 0, .slice none 0 0] 76)).drew.heap.size = w5.heap.size + 1 := by show (w5.alloc _).heap.size = _; simp
          obtain ⟨w3, hw3⟩ : ∃ w3, (w5.alloc (.cells #[.int .i64 0, .int .i64 0, .slice none 0 0] 76)).drew = w3 := ⟨_, rfl⟩; rw [hw3] at hb7 b7 HS hsz3; rw [hw3]; clear hw3; have b7' := Lib.hid b7; have hb7' := Lib.hid hb7; clear b7 hb7
          first | refine Mid.mk ⟨HS.out, ?_⟩ | refine Mid.mk ?_
          refine held_one 17 5 (by kernel_rfl) (by kernel_rfl) ?_; simp only [pickL, List.map_cons, List.map_nil, List.getD_cons_succ, List.getD_cons_zero]
          go_wp2_with fail
          refine (HO'.out _ hb7'.out).mono ?_; rintro e w7 ⟨ty', cnt', a3, m3, c3, rfl, hb6, hd6⟩; have hb6x := hb7'.out.trans (hb6.mono hb7'.out.size); have b7 := b7'.out.late hb6; have HS := Lib.hid (hsurj'.out _ hb6x); have hd7 := fun d h => (⟨(hd6 d h).1, (hd6 d h).2.1, own_mono (hd6 d h).2.2 hb7'.out.size, fun e => by have := ((hd6 d h).2.2.lt _ e).1; omega⟩ : ty' = ty ∧ cnt' = cnt ∧ World.ownsRow w7 w5.heap.size _ _ _ _ _ ∧ (Value.slice a3 m3 c3).ownBlock ≠ some w5.heap.size); have hb7 := hb6x; obtain ⟨g7, hg7e⟩ : ∃ g, w5.heap.size = g := ⟨_, rfl⟩; have hg7 : w5.heap.size ≤ g7 := Nat.le_of_eq hg7e; clear b7' hb7' hb6 hb6x hd6 hsz3; rw [hg7e] at b7; rw [hg7e]
          replace hd7 := fun d h => (⟨(hd7 d h).1, (hd7 d h).2.1, (hd7 d h).2.2.1, hg7e ▸ (hd7 d h).2.2.2⟩ : ty' = ty ∧ cnt' = cnt ∧ World.ownsRow w7 w5.heap.size _ _ _ _ _ ∧ (Value.slice a3 m3 c3).ownBlock ≠ some g7)
          clear hg7e; have b7' := Lib.hid b7; have hb7' := Lib.hid hb7; have hd7' := Lib.hid hd7; clear b7 hb7 hd7
          go_wp2_with fail
          first | refine Mid.mk ⟨HS.out, ?_⟩ | refine Mid.mk ?_
          refine held_take [18, 19, 20] 2 (by kernel_rfl) (fun d _ _ _ _ h => by cases d <;> exact h) (by kernel_rfl) (by kernel_rfl) (by kernel_rfl) HS.out ?_; simp only [pickL, List.map_cons, List.map_nil, List.getD_cons_succ, List.getD_cons_zero]
          iterate 3 (go_big_quiet_step (fail))
          refine wpQuiet_nil ?_; refine held_one 22 1 (by kernel_rfl) (by kernel_rfl) ?_; simp only [pickL, List.map_cons, List.map_nil, List.getD_cons_succ, List.getD_cons_zero]; have p0 : w7.cell? ⟨g7, 0, none⟩ = some (.int .i64 0) := b7'.out.cell rfl; have p1 : w7.cell? ⟨g7, 1, none⟩ = some (.int .i64 0) := b7'.out.cell rfl; have p2 : w7.cell? ⟨g7, 2, none⟩ = some (.slice none 0 0) := b7'.out.cell rfl; have y0 := b7'.out.frozen 0; have y1 := b7'.out.frozen 1; have y2 := b7'.out.frozen 2
          go_wp2_with fail
          have b8 := b7'.out.set3 (.int .i64 ty') (.int .i64 cnt') (.slice a3 m3 c3); have hb8 := below_set3 hb7'.out hg7 (.int .i64 ty') (.int .i64 cnt') (.slice a3 m3 c3); have HS := Lib.hid (hsurj'.out _ hb8); have hd8 := fun d h => (⟨(hd7'.out d h).1, (hd7'.out d h).2.1, own_but (hd7'.out d h).2.2.1 ((((But.refl g7 w7).set 0 (.int .i64 ty')).set 1 (.int .i64 cnt')).set 2 (.slice a3 m3 c3)) (hd7'.out d h).2.2.2⟩ : ty' = ty ∧ cnt' = cnt ∧ World.ownsRow _ _ _ _ _ _ _); refine Mid.mk ⟨HS.out, ?_⟩; refine held_take [23] 0 (by kernel_rfl) (fun d _ _ _ _ h => by cases d <;> exact h) (by kernel_rfl) (by kernel_rfl) (by kernel_rfl) HS.out ?_; simp only [pickL, List.map_cons, List.map_nil, List.getD_cons_succ, List.getD_cons_zero]
          iterate 1 (go_big_quiet_step (fail))
          refine wpQuiet_nil ?_; refine held_last (by kernel_rfl) ?_; clear p0 p1 p2 y0 y1 y2 b7' hb7' hd7' q0 q1 r1 r2 r3 HS
          generalize (((w7.setCell ⟨g7, 0, none⟩ (.int .i64 ty')).setCell ⟨g7, 1, none⟩ (.int .i64 cnt')).setCell ⟨g7, 2, none⟩ (.slice a3 m3 c3)) = w8 at *
          have bx8 := bx5'.out.late hb8; have b08 := b05'.out.late hb8; have hok8 := hok1'.out.later hb8; have hmv8 := hmvw'.out.later hb8; have hw8 := hb8.size
          cases V with
          | none =>
            obtain rfl : R = .error 6 := by rw [← hR4'.out]
            simp only [Option.isSome_none] at *; clear hd8; have b8' := Lib.hid b8; have hb8' := Lib.hid hb8; have bx8' := Lib.hid bx8; have b08' := Lib.hid b08; have hok8' := Lib.hid hok8; have hmv8' := Lib.hid hmv8; clear b8 hb8 bx8 b08 hok8 hmv8
            go_wp2_with (go_at_call 122; refine (must_any _ _ _).mono ?_; rintro e w3 ⟨rfl, rfl⟩; simp only [mustE_t, mustE_f])
            exact ⟨rfl, rfl, sv1, hmv8'.out⟩
          | some d =>
            obtain ⟨rfl, rfl, hod⟩ := hd8 d rfl; obtain rfl : R = .ok ((tg, ty', cnt', d), s1) := by rw [← hR4'.out]
            have hm3 := (Sl.of_own hod).1.ilen; simp only [Option.isSome_some] at *; have t0 : w8.cell? ⟨w.heap.size, 0, none⟩ = some (.int .i64 tg) := bx8.cell rfl; have v0 : w8.cell? ⟨g7, 0, none⟩ = some (.int .i64 ty') := b8.cell rfl; have v1 : w8.cell? ⟨g7, 1, none⟩ = some (.int .i64 cnt') := b8.cell rfl; have v2 : w8.cell? ⟨g7, 2, none⟩ = some (.slice a3 m3 c3) := b8.cell rfl; have p0 : w8.cell? ⟨w.heap.size + 1, 0, none⟩ = some (.int .i64 0) := b08.cell rfl; have p1 : w8.cell? ⟨w.heap.size + 1, 1, none⟩ = some (.int .i64 0) := b08.cell rfl; have p2 : w8.cell? ⟨w.heap.size + 1, 2, none⟩ = some (.int .i64 0) := b08.cell rfl; have p3 : w8.cell? ⟨w.heap.size + 1, 3, none⟩ = some (.slice none 0 0) := b08.cell rfl; have y0 := b08.frozen 0; have y1 := b08.frozen 1; have y2 := b08.frozen 2; have y3 := b08.frozen 3; clear hd8; have b8' := Lib.hid b8; have hb8' := Lib.hid hb8; have bx8' := Lib.hid bx8; have b08' := Lib.hid b08; have hok8' := Lib.hid hok8; have hmv8' := Lib.hid hmv8; have hod' := Lib.hid hod; have hm3' := Lib.hid hm3; clear b8 hb8 bx8 b08 hok8 hmv8 hod hm3
            go_wp2_with (go_at_call 122; refine (must_any _ _ _).mono ?_; rintro e w3 ⟨rfl, rfl⟩; simp only [mustE_t, mustE_f])
            refine bodyPost_ret (results_cell_row rfl _ _ (w.heap.size + 1) 78 #[.int .i64 tg, .int .i64 ty', .int .i64 cnt', .slice a3 m3 c3] (0, 0) _ rfl (b08'.out.set4 _ _ _ _) Tryz.underlying78 rfl (by kernel_rfl)) rfl ?_; have hbt := (((((But.refl (w.heap.size + 1) w8).set 0 (.int .i64 tg)).set 1 (.int .i64 ty')).set 2 (.int .i64 cnt')).set 3 (.slice a3 m3 c3)); have hdr5 : w5.drew.heap.size = w5.heap.size := rfl; refine ⟨sv1, tk1, hok8'.out.but hbt (by omega) (by omega) hsv1 (Nat.le_trans hok'.out.old.size (Nat.le_succ _)), hmv8'.out.new_set (Nat.le_succ _) hbt, a3, m3, c3, rfl, ?_, fun kk e h => ?_⟩
            · have h := own_but hod'.out hbt (fun e => by have := (hod'.out.lt _ e).1; omega)
              rw [hm3'.out]; exact own_mono h (by omega)
            · have h1 := (hod'.out.lt kk e).1
              have h2 := (hok1'.out.spot.lt kk h).2
              omega
    case neg =>
      have d4 : decide (0 < (L : Int)) = false := by simp; omega
      have d5 : decide (0 < L) = false := by simp; omega
      have hR4 := hR'.out; rw [if_neg hL0] at hR4; obtain ⟨Ty, f, hne, hbel, hsurj⟩ := later_worlds w2; have q1 : ∀ s, (f s).cell? ⟨K.g, 1, none⟩ = some (.int .i64 K.o) := fun s => (Blk.late hok2'.out.blk (hbel s)).cell rfl; have r0 : ∀ s, (f s).cell? ⟨w.heap.size, 0, none⟩ = some (.int .i64 tg) := fun s => (Blk.late bx2'.out (hbel s)).cell rfl; have r1 : ∀ s, (f s).cell? ⟨w.heap.size, 1, none⟩ = some (.int .i64 ty) := fun s => (Blk.late bx2'.out (hbel s)).cell rfl; have r2 : ∀ s, (f s).cell? ⟨w.heap.size, 2, none⟩ = some (.int .i64 cnt) := fun s => (Blk.late bx2'.out (hbel s)).cell rfl; have r3 : ∀ s, (f s).cell? ⟨w.heap.size, 3, none⟩ = some (.int .i64 S) := fun s => (Blk.late bx2'.out (hbel s)).cell rfl; have HS := Lib.hid (hsurj _ ((Below.refl _ _).drew)); have HD := Lib.hid ((Below.refl w2.heap.size w2).drew); have HO := fun W => value_any (tg, ty, cnt, (S : Int)) K.o W; unfold entV at HO; simp only at HO; obtain ⟨V, hV⟩ : ∃ V, inS (tg, ty, cnt, (S : Int)) K.o = V := ⟨_, rfl⟩; rw [hV] at HO hR4; clear hV hR' k0 k3; have hbel' := Lib.hid hbel; have hsurj' := Lib.hid hsurj; have HO' := Lib.hid HO; have hR4' := Lib.hid hR4; clear hbel hsurj HO hR4
      go_wp2_with fail
      refine held_begin (S := fun W => ∃ s, W = f s) (by kernel_rfl) 15 rfl ?_; refine held_take [0, 1, 2, 3, 4, 5] 9 (by kernel_rfl) (fun d _ _ _ _ h => by cases d <;> exact h) (by kernel_rfl) (by kernel_rfl) (by kernel_rfl) HS.out ?_; simp only [pickL, List.map_cons, List.map_nil, List.getD_cons_succ, List.getD_cons_zero]
      iterate 6 (go_big_quiet_step (fail))
      refine wpQuiet_nil ?_; refine held_two 6 11 8 (by kernel_rfl) (by kernel_rfl) ?_ ?_
      all_goals simp only [pickL, List.map_cons, List.map_nil, List.getD_cons_succ, List.getD_cons_zero]
      case refine_1 =>
        go_wp2_with fail
        refine (HO'.out _).mono ?_; rintro e w6 ⟨ty', cnt', a3, m3, c3, cl, rfl, hb6, hd6⟩; have hb6 := HD.out.trans (hb6.mono HD.out.size); have HS := Lib.hid (hsurj'.out _ hb6); have hb6' := Lib.hid hb6; have hd6' := Lib.hid hd6; clear hb6 hd6
        go_wp2_with fail
        first | refine Mid.mk ⟨HS.out, ?_⟩ | refine Mid.mk ?_
        refine held_take [7, 8, 9, 10] 4 (by kernel_rfl) (fun d _ _ _ _ h => by cases d <;> exact h) (by kernel_rfl) (by kernel_rfl) (by kernel_rfl) HS.out ?_; simp only [pickL, List.map_cons, List.map_nil, List.getD_cons_succ, List.getD_cons_zero]
        iterate 4 (go_big_quiet_step (fail))
        refine wpQuiet_nil ?_; refine held_one 11 3 (by kernel_rfl) (by kernel_rfl) ?_; simp only [pickL, List.map_cons, List.map_nil, List.getD_cons_succ, List.getD_cons_zero]
        go_wp2_with fail
        have hal := (Below.refl w6.heap.size w6).alloc (Nat.le_refl _) (.cells #[.int .i64 0, .int .i64 0, .slice none 0 0] 76); have b7 := Blk.new w6 76 #[.int .i64 0, .int .i64 0, .slice none 0 0]; have hb7 := hb6'.out.trans (hal.mono hb6'.out.size); have hg7 : w2.heap.size ≤ w6.heap.size := hb6'.out.size; have hd7 := fun d h => (⟨(hd6'.out d h).1, (hd6'.out d h).2.1, (hd6'.out d h).2.2.1, own_later (hd6'.out d h).2.2.2 hal, fun e => by have := ((hd6'.out d h).2.2.2.lt _ e).2; omega⟩ : ty' = ty ∧ cnt' = cnt ∧ cl = d.2 ∧ World.ownsRow _ _ _ _ _ _ _ ∧ (Value.slice a3 m3 c3).ownBlock ≠ some w6.heap.size); clear hal
        generalize w6.alloc (.cells #[.int .i64 0, .int .i64 0, .slice none 0 0] 76) = w7 at *
        generalize w6.heap.size = g7 at *
        have HS := Lib.hid (hsurj'.out _ hb7); clear hb6' hd6'; have b7' := Lib.hid b7; have hb7' := Lib.hid hb7; have hd7' := Lib.hid hd7; clear b7 hb7 hd7
        first | refine Mid.mk ⟨HS.out, ?_⟩ | refine Mid.mk ?_
        refine held_one 12 2 (by kernel_rfl) (by kernel_rfl) ?_; simp only [pickL, List.map_cons, List.map_nil, List.getD_cons_succ, List.getD_cons_zero]; have p0 : w7.cell? ⟨g7, 0, none⟩ = some (.int .i64 0) := b7'.out.cell rfl; have p1 : w7.cell? ⟨g7, 1, none⟩ = some (.int .i64 0) := b7'.out.cell rfl; have p2 : w7.cell? ⟨g7, 2, none⟩ = some (.slice none 0 0) := b7'.out.cell rfl; have y0 := b7'.out.frozen 0; have y1 := b7'.out.frozen 1; have y2 := b7'.out.frozen 2
        go_wp2_with fail
        have b8 := b7'.out.set3 (.int .i64 ty') (.int .i64 cnt') (.slice a3 m3 c3); have hb8 := below_set3 hb7'.out hg7 (.int .i64 ty') (.int .i64 cnt') (.slice a3 m3 c3); have HS := Lib.hid (hsurj'.out _ hb8); have hd8 := fun d h => (⟨(hd7'.out d h).1, (hd7'.out d h).2.1, (hd7'.out d h).2.2.1, own_but (hd7'.out d h).2.2.2.1 ((((But.refl g7 w7).set 0 (.int .i64 ty')).set 1 (.int .i64 cnt')).set 2 (.slice a3 m3 c3)) (hd7'.out d h).2.2.2.2⟩ : ty' = ty ∧ cnt' = cnt ∧ cl = d.2 ∧ World.ownsRow _ _ _ _ _ _ _); refine Mid.mk ⟨HS.out, ?_⟩; refine held_take [13, 14] 0 (by kernel_rfl) (fun d _ _ _ _ h => by cases d <;> exact h) (by kernel_rfl) (by kernel_rfl) (by kernel_rfl) HS.out ?_; simp only [pickL, List.map_cons, List.map_nil, List.getD_cons_succ, List.getD_cons_zero]
        iterate 2 (go_big_quiet_step (fail))
        refine wpQuiet_nil ?_; refine held_last (by kernel_rfl) ?_; clear p0 p1 p2 y0 y1 y2 b7' hb7' hd7' q1 r0 r1 r2 r3 HS
        generalize (((w7.setCell ⟨g7, 0, none⟩ (.int .i64 ty')).setCell ⟨g7, 1, none⟩ (.int .i64 cnt')).setCell ⟨g7, 2, none⟩ (.slice a3 m3 c3)) = w8 at *
        have bx8 := bx2'.out.late hb8; have b08 := b02'.out.late hb8; have hok8 := hok2'.out.later hb8; have hmv8 : Mv K.g K.gt sv sv w w8 := Mv.of_below (hbw2'.out.trans (hb8.mono hbw2'.out.size)); have hw8 := hb8.size; have hgg : ∀ c, sv.ownBlock = some c → c < w.heap.size := hsvw'.out; have hdr2 : w2.drew.heap.size = w2.heap.size := rfl
        cases V with
        | none =>
          obtain rfl : R = .error 6 := by rw [← hR4'.out]
          simp only [Option.isSome_none] at *; clear hd8; have b8' := Lib.hid b8; have hb8' := Lib.hid hb8; have bx8' := Lib.hid bx8; have b08' := Lib.hid b08; have hok8' := Lib.hid hok8; have hmv8' := Lib.hid hmv8; have hgg' := Lib.hid hgg; clear b8 hb8 bx8 b08 hok8 hmv8 hgg
          go_wp2_with (go_at_call 122; refine (must_any _ _ _).mono ?_; rintro e w3 ⟨rfl, rfl⟩; simp only [mustE_t, mustE_f])
          exact ⟨rfl, rfl, sv, hmv8'.out⟩
        | some d =>
          obtain ⟨rfl, rfl, rfl, hod⟩ := hd8 d rfl; have hm3 := (Sl.of_own hod).1.ilen; simp only [Option.isSome_some] at *; have t0 : w8.cell? ⟨w.heap.size, 0, none⟩ = some (.int .i64 tg) := bx8.cell rfl; have v0 : w8.cell? ⟨g7, 0, none⟩ = some (.int .i64 ty') := b8.cell rfl; have v1 : w8.cell? ⟨g7, 1, none⟩ = some (.int .i64 cnt') := b8.cell rfl; have v2 : w8.cell? ⟨g7, 2, none⟩ = some (.slice a3 m3 c3) := b8.cell rfl; have p0 : w8.cell? ⟨w.heap.size + 1, 0, none⟩ = some (.int .i64 0) := b08.cell rfl; have p1 : w8.cell? ⟨w.heap.size + 1, 1, none⟩ = some (.int .i64 0) := b08.cell rfl; have p2 : w8.cell? ⟨w.heap.size + 1, 2, none⟩ = some (.int .i64 0) := b08.cell rfl; have p3 : w8.cell? ⟨w.heap.size + 1, 3, none⟩ = some (.slice none 0 0) := b08.cell rfl; have y0 := b08.frozen 0; have y1 := b08.frozen 1; have y2 := b08.frozen 2; have y3 := b08.frozen 3; clear hd8; obtain ⟨d, cl⟩ := d; have hsvt : sv.ownBlock ≠ some (w.heap.size + 1) := fun e => by have := hgg _ e; omega
          cases cl with
          | true =>
            obtain rfl : R = .ok ((tg, ty', cnt', d), s) := by rw [← hR4'.out]; simp
            have b8' := Lib.hid b8; have hb8' := Lib.hid hb8; have bx8' := Lib.hid bx8; have b08' := Lib.hid b08; have hok8' := Lib.hid hok8; have hmv8' := Lib.hid hmv8; have hod' := Lib.hid hod; have hm3' := Lib.hid hm3; have hgg' := Lib.hid hgg; clear b8 hb8 bx8 b08 hok8 hmv8 hod hm3 hgg
            go_wp2_with (go_at_call 122; refine (must_any _ _ _).mono ?_; rintro e w3 ⟨rfl, rfl⟩; simp only [mustE_t, mustE_f])
            refine bodyPost_ret (results_cell_row rfl _ _ (w.heap.size + 1) 78 #[.int .i64 tg, .int .i64 ty', .int .i64 cnt', .slice a3 m3 c3] (0, 0) _ rfl (b08'.out.set4 _ _ _ _) Tryz.underlying78 rfl (by kernel_rfl)) rfl ?_; have hbt := (((((But.refl (w.heap.size + 1) w8).set 0 (.int .i64 tg)).set 1 (.int .i64 ty')).set 2 (.int .i64 cnt')).set 3 (.slice a3 m3 c3)); refine ⟨sv, tk, hok8'.out.but hbt (by omega) (by omega) hsvt (Nat.le_trans hok'.out.old.size (Nat.le_succ _)), hmv8'.out.new_set (Nat.le_succ _) hbt, a3, m3, c3, rfl, ?_, fun kk e h => ?_⟩
            · have h := own_but hod'.out hbt (fun e => by have := (hod'.out.lt _ e).1; omega)
              rw [hm3'.out]; exact own_mono h (by omega)
            · have h1 := (hod'.out.lt kk e).1
              have h2 := hgg'.out kk h
              omega
          | false =>
            obtain ⟨so, hws⟩ : ∃ so, IntKind.i64.wrap (s.soiled + 1) = so := ⟨_, rfl⟩; obtain rfl : R = .ok ((tg, ty', cnt', d), { s with soiled := so }) := by rw [← hR4'.out, ← hws]; simp
            have g5 : w8.cell? ⟨K.g, 6, none⟩ = some (.int .i64 s.soiled) := hok8.blk.cell rfl; have g6 := hok8.blk.frozen 6; have hb9 := hok8.blk.set 6 (.int .i64 so); have hbtg := (But.refl K.g w8).set 6 (.int .i64 so); have b89 := b8.but hbtg (by omega); have bx9 := bx8.but hbtg (by omega); have b09 := b08.but hbtg (by omega); have hod9 := own_but hod hbtg (fun e => by have := (hod.lt _ e).1; omega); have hmv9 := hmv8.trans (Mv.of_but hbtg (.inl rfl))
            have hok9 : WkOk K { s with soiled := so } sv tk (w8.setCell ⟨K.g, 6, none⟩ (.int .i64 so)) :=
              ⟨hok8.old.trans (hbtg.below t'.out.gB hok8.old.size), hb9, Blk.but (T := 188) hok8.tak hbtg (Ne.symm t'.out.ne), hok8.tkl, hok8.tkb, hok8.bits, own_but hok8.spot hbtg hok8.sg, hok8.sg, hok8.sgt⟩
            clear t0 v0 v1 v2 p0 p1 p2 p3 y0 y1 y2 y3 hb9 hod; have b8' := Lib.hid b8; have hb8' := Lib.hid hb8; have bx8' := Lib.hid bx8; have b08' := Lib.hid b08; have hok8' := Lib.hid hok8; have hmv8' := Lib.hid hmv8; have hm3' := Lib.hid hm3; have hgg' := Lib.hid hgg; have hbtg' := Lib.hid hbtg; have b89' := Lib.hid b89; have bx9' := Lib.hid bx9; have b09' := Lib.hid b09; have hod9' := Lib.hid hod9; have hmv9' := Lib.hid hmv9; have hok9' := Lib.hid hok9; clear b8 hb8 bx8 b08 hok8 hmv8 hm3 hgg hbtg b89 bx9 b09 hod9 hmv9 hok9
            go_upto_region 12 with (go_at_call 122; refine (must_any _ _ _).mono ?_; rintro e w3 ⟨rfl, rfl⟩; simp only [mustE_t, mustE_f])
            clear g5 g6
            generalize w8.setCell ⟨K.g, 6, none⟩ (.int .i64 so) = w9 at *
            have t0 : w9.cell? ⟨w.heap.size, 0, none⟩ = some (.int .i64 tg) := bx9'.out.cell rfl; have v0 : w9.cell? ⟨g7, 0, none⟩ = some (.int .i64 ty') := b89'.out.cell rfl; have v1 : w9.cell? ⟨g7, 1, none⟩ = some (.int .i64 cnt') := b89'.out.cell rfl; have v2 : w9.cell? ⟨g7, 2, none⟩ = some (.slice a3 m3 c3) := b89'.out.cell rfl; have p0 : w9.cell? ⟨w.heap.size + 1, 0, none⟩ = some (.int .i64 0) := b09'.out.cell rfl; have p1 : w9.cell? ⟨w.heap.size + 1, 1, none⟩ = some (.int .i64 0) := b09'.out.cell rfl; have p2 : w9.cell? ⟨w.heap.size + 1, 2, none⟩ = some (.int .i64 0) := b09'.out.cell rfl; have p3 : w9.cell? ⟨w.heap.size + 1, 3, none⟩ = some (.slice none 0 0) := b09'.out.cell rfl; have y0 := b09'.out.frozen 0; have y1 := b09'.out.frozen 1; have y2 := b09'.out.frozen 2; have y3 := b09'.out.frozen 3
            go_wp2_with fail
            refine bodyPost_ret (results_cell_row rfl _ _ (w.heap.size + 1) 78 #[.int .i64 tg, .int .i64 ty', .int .i64 cnt', .slice a3 m3 c3] (0, 0) _ rfl (b09'.out.set4 _ _ _ _) Tryz.underlying78 rfl (by kernel_rfl)) rfl ?_; have hbt := (((((But.refl (w.heap.size + 1) w9).set 0 (.int .i64 tg)).set 1 (.int .i64 ty')).set 2 (.int .i64 cnt')).set 3 (.slice a3 m3 c3)); refine ⟨sv, tk, hok9'.out.but hbt (by omega) (by omega) hsvt (Nat.le_trans hok'.out.old.size (Nat.le_succ _)), hmv9'.out.new_set (Nat.le_succ _) hbt, a3, m3, c3, rfl, ?_, fun kk e h => ?_⟩
            · have h := own_but hod9'.out hbt (fun e => by have := (hod9'.out.lt _ e).1; omega)
              rw [hm3'.out]; exact own_mono h (by omega)
            · have h1 := (hod9'.out.lt kk e).1
              have h2 := hgg'.out kk h
              omega
      case refine_2 =>
        go_wp2_with fail
        have hb7 := ((Below.refl w2.heap.size w2).alloc (Nat.le_refl _) (.cells #[.int .i64 0, .int .i64 0, .slice none 0 0] 76)).drew; have b7 : Blk (w2.alloc (.cells #[.int .i64 0, .int .i64 0, .slice none 0 0] 76)).drew w2.heap.size 76 #[.int .i64 0, .int .i64 0, .slice none 0 0] := Blk.new w2 _ _; have HS := Lib.hid (hsurj'.out _ hb7); have hsz3 : (w2.alloc (.cells #[.int .i64 0, .int .i64 0, .slice none 0 0] 76)).drew.heap.size = w2.heap.size + 1 := by show (w2.alloc _).heap.size = _; simp
        obtain ⟨w3, hw3⟩ : ∃ w3, (w2.alloc (.cells #[.int .i64 0, .int .i64 0, .slice none 0 0] 76)).drew = w3 := ⟨_, rfl⟩; rw [hw3] at hb7 b7 HS hsz3; rw [hw3]; clear hw3; have b7' := Lib.hid b7; have hb7' := Lib.hid hb7; clear b7 hb7
        first | refine Mid.mk ⟨HS.out, ?_⟩ | refine Mid.mk ?_
        refine held_one 6 7 (by kernel_rfl) (by kernel_rfl) ?_; simp only [pickL, List.map_cons, List.map_nil, List.getD_cons_succ, List.getD_cons_zero]
        go_wp2_with fail
        refine (HO'.out _).mono ?_; rintro e w7 ⟨ty', cnt', a3, m3, c3, cl, rfl, hb6, hd6⟩; have hb6x := hb7'.out.trans (hb6.mono hb7'.out.size); have b7 := b7'.out.late hb6; have HS := Lib.hid (hsurj'.out _ hb6x); have hd7 := fun d h => (⟨(hd6 d h).1, (hd6 d h).2.1, (hd6 d h).2.2.1, own_mono (hd6 d h).2.2.2 hb7'.out.size, fun e => by have := ((hd6 d h).2.2.2.lt _ e).1; omega⟩ : ty' = ty ∧ cnt' = cnt ∧ cl = d.2 ∧ World.ownsRow w7 w2.heap.size _ _ _ _ _ ∧ (Value.slice a3 m3 c3).ownBlock ≠ some w2.heap.size); have hb7 := hb6x; obtain ⟨g7, hg7e⟩ : ∃ g, w2.heap.size = g := ⟨_, rfl⟩; have hg7 : w2.heap.size ≤ g7 := Nat.le_of_eq hg7e; clear b7' hb7' hb6 hb6x hd6 hsz3; rw [hg7e] at b7; rw [hg7e]
        replace hd7 := fun d h => (⟨(hd7 d h).1, (hd7 d h).2.1, (hd7 d h).2.2.1, (hd7 d h).2.2.2.1, hg7e ▸ (hd7 d h).2.2.2.2⟩ : ty' = ty ∧ cnt' = cnt ∧ cl = d.2 ∧ World.ownsRow w7 w2.heap.size _ _ _ _ _ ∧ (Value.slice a3 m3 c3).ownBlock ≠ some g7)
        clear hg7e; have b7' := Lib.hid b7; have hb7' := Lib.hid hb7; have hd7' := Lib.hid hd7; clear b7 hb7 hd7
        go_wp2_with fail
        first | refine Mid.mk ⟨HS.out, ?_⟩ | refine Mid.mk ?_
        refine held_take [7, 8, 9, 10] 3 (by kernel_rfl) (fun d _ _ _ _ h => by cases d <;> exact h) (by kernel_rfl) (by kernel_rfl) (by kernel_rfl) HS.out ?_; simp only [pickL, List.map_cons, List.map_nil, List.getD_cons_succ, List.getD_cons_zero]
        iterate 4 (go_big_quiet_step (fail))
        refine wpQuiet_nil ?_; refine held_one 12 2 (by kernel_rfl) (by kernel_rfl) ?_; simp only [pickL, List.map_cons, List.map_nil, List.getD_cons_succ, List.getD_cons_zero]; have p0 : w7.cell? ⟨g7, 0, none⟩ = some (.int .i64 0) := b7'.out.cell rfl; have p1 : w7.cell? ⟨g7, 1, none⟩ = some (.int .i64 0) := b7'.out.cell rfl; have p2 : w7.cell? ⟨g7, 2, none⟩ = some (.slice none 0 0) := b7'.out.cell rfl; have y0 := b7'.out.frozen 0; have y1 := b7'.out.frozen 1; have y2 := b7'.out.frozen 2
        go_wp2_with fail
        have b8 := b7'.out.set3 (.int .i64 ty') (.int .i64 cnt') (.slice a3 m3 c3); have hb8 := below_set3 hb7'.out hg7 (.int .i64 ty') (.int .i64 cnt') (.slice a3 m3 c3); have HS := Lib.hid (hsurj'.out _ hb8); have hd8 := fun d h => (⟨(hd7'.out d h).1, (hd7'.out d h).2.1, (hd7'.out d h).2.2.1, own_but (hd7'.out d h).2.2.2.1 ((((But.refl g7 w7).set 0 (.int .i64 ty')).set 1 (.int .i64 cnt')).set 2 (.slice a3 m3 c3)) (hd7'.out d h).2.2.2.2⟩ : ty' = ty ∧ cnt' = cnt ∧ cl = d.2 ∧ World.ownsRow _ _ _ _ _ _ _); refine Mid.mk ⟨HS.out, ?_⟩; refine held_take [13, 14] 0 (by kernel_rfl) (fun d _ _ _ _ h => by cases d <;> exact h) (by kernel_rfl) (by kernel_rfl) (by kernel_rfl) HS.out ?_; simp only [pickL, List.map_cons, List.map_nil, List.getD_cons_succ, List.getD_cons_zero]
        iterate 2 (go_big_quiet_step (fail))
        refine wpQuiet_nil ?_; refine held_last (by kernel_rfl) ?_; clear p0 p1 p2 y0 y1 y2 b7' hb7' hd7' q1 r0 r1 r2 r3 HS
        generalize (((w7.setCell ⟨g7, 0, none⟩ (.int .i64 ty')).setCell ⟨g7, 1, none⟩ (.int .i64 cnt')).setCell ⟨g7, 2, none⟩ (.slice a3 m3 c3)) = w8 at *
        have bx8 := bx2'.out.late hb8; have b08 := b02'.out.late hb8; have hok8 := hok2'.out.later hb8; have hmv8 : Mv K.g K.gt sv sv w w8 := Mv.of_below (hbw2'.out.trans (hb8.mono hbw2'.out.size)); have hw8 := hb8.size; have hgg : ∀ c, sv.ownBlock = some c → c < w.heap.size := hsvw'.out; have hdr2 : w2.drew.heap.size = w2.heap.size := rfl
        cases V with
        | none =>
          obtain rfl : R = .error 6 := by rw [← hR4'.out]
          simp only [Option.isSome_none] at *; clear hd8; have b8' := Lib.hid b8; have hb8' := Lib.hid hb8; have bx8' := Lib.hid bx8; have b08' := Lib.hid b08; have hok8' := Lib.hid hok8; have hmv8' := Lib.hid hmv8; have hgg' := Lib.hid hgg; clear b8 hb8 bx8 b08 hok8 hmv8 hgg
          go_wp2_with (go_at_call 122; refine (must_any _ _ _).mono ?_; rintro e w3 ⟨rfl, rfl⟩; simp only [mustE_t, mustE_f])
          exact ⟨rfl, rfl, sv, hmv8'.out⟩
        | some d =>
          obtain ⟨rfl, rfl, rfl, hod⟩ := hd8 d rfl; have hm3 := (Sl.of_own hod).1.ilen; simp only [Option.isSome_some] at *; have t0 : w8.cell? ⟨w.heap.size, 0, none⟩ = some (.int .i64 tg) := bx8.cell rfl; have v0 : w8.cell? ⟨g7, 0, none⟩ = some (.int .i64 ty') := b8.cell rfl; have v1 : w8.cell? ⟨g7, 1, none⟩ = some (.int .i64 cnt') := b8.cell rfl; have v2 : w8.cell? ⟨g7, 2, none⟩ = some (.slice a3 m3 c3) := b8.cell rfl; have p0 : w8.cell? ⟨w.heap.size + 1, 0, none⟩ = some (.int .i64 0) := b08.cell rfl; have p1 : w8.cell? ⟨w.heap.size + 1, 1, none⟩ = some (.int .i64 0) := b08.cell rfl; have p2 : w8.cell? ⟨w.heap.size + 1, 2, none⟩ = some (.int .i64 0) := b08.cell rfl; have p3 : w8.cell? ⟨w.heap.size + 1, 3, none⟩ = some (.slice none 0 0) := b08.cell rfl; have y0 := b08.frozen 0; have y1 := b08.frozen 1; have y2 := b08.frozen 2; have y3 := b08.frozen 3; clear hd8; obtain ⟨d, cl⟩ := d; have hsvt : sv.ownBlock ≠ some (w.heap.size + 1) := fun e => by have := hgg _ e; omega
          cases cl with
          | true =>
            obtain rfl : R = .ok ((tg, ty', cnt', d), s) := by rw [← hR4'.out]; simp
            have b8' := Lib.hid b8; have hb8' := Lib.hid hb8; have bx8' := Lib.hid bx8; have b08' := Lib.hid b08; have hok8' := Lib.hid hok8; have hmv8' := Lib.hid hmv8; have hod' := Lib.hid hod; have hm3' := Lib.hid hm3; have hgg' := Lib.hid hgg; clear b8 hb8 bx8 b08 hok8 hmv8 hod hm3 hgg
            go_wp2_with (go_at_call 122; refine (must_any _ _ _).mono ?_; rintro e w3 ⟨rfl, rfl⟩; simp only [mustE_t, mustE_f])
            refine bodyPost_ret (results_cell_row rfl _ _ (w.heap.size + 1) 78 #[.int .i64 tg, .int .i64 ty', .int .i64 cnt', .slice a3 m3 c3] (0, 0) _ rfl (b08'.out.set4 _ _ _ _) Tryz.underlying78 rfl (by kernel_rfl)) rfl ?_; have hbt := (((((But.refl (w.heap.size + 1) w8).set 0 (.int .i64 tg)).set 1 (.int .i64 ty')).set 2 (.int .i64 cnt')).set 3 (.slice a3 m3 c3)); refine ⟨sv, tk, hok8'.out.but hbt (by omega) (by omega) hsvt (Nat.le_trans hok'.out.old.size (Nat.le_succ _)), hmv8'.out.new_set (Nat.le_succ _) hbt, a3, m3, c3, rfl, ?_, fun kk e h => ?_⟩
            · have h := own_but hod'.out hbt (fun e => by have := (hod'.out.lt _ e).1; omega)
              rw [hm3'.out]; exact own_mono h (by omega)
            · have h1 := (hod'.out.lt kk e).1
              have h2 := hgg'.out kk h
              omega
          | false =>
            obtain ⟨so, hws⟩ : ∃ so, IntKind.i64.wrap (s.soiled + 1) = so := ⟨_, rfl⟩; obtain rfl : R = .ok ((tg, ty', cnt', d), { s with soiled := so }) := by rw [← hR4'.out, ← hws]; simp
            have g5 : w8.cell? ⟨K.g, 6, none⟩ = some (.int .i64 s.soiled) := hok8.blk.cell rfl; have g6 := hok8.blk.frozen 6; have hb9 := hok8.blk.set 6 (.int .i64 so); have hbtg := (But.refl K.g w8).set 6 (.int .i64 so); have b89 := b8.but hbtg (by omega); have bx9 := bx8.but hbtg (by omega); have b09 := b08.but hbtg (by omega); have hod9 := own_but hod hbtg (fun e => by have := (hod.lt _ e).1; omega); have hmv9 := hmv8.trans (Mv.of_but hbtg (.inl rfl))
            have hok9 : WkOk K { s with soiled := so } sv tk (w8.setCell ⟨K.g, 6, none⟩ (.int .i64 so)) :=
              ⟨hok8.old.trans (hbtg.below t'.out.gB hok8.old.size), hb9, Blk.but (T := 188) hok8.tak hbtg (Ne.symm t'.out.ne), hok8.tkl, hok8.tkb, hok8.bits, own_but hok8.spot hbtg hok8.sg, hok8.sg, hok8.sgt⟩
            clear t0 v0 v1 v2 p0 p1 p2 p3 y0 y1 y2 y3 hb9 hod; have b8' := Lib.hid b8; have hb8' := Lib.hid hb8; have bx8' := Lib.hid bx8; have b08' := Lib.hid b08; have hok8' := Lib.hid hok8; have hmv8' := Lib.hid hmv8; have hm3' := Lib.hid hm3; have hgg' := Lib.hid hgg; have hbtg' := Lib.hid hbtg; have b89' := Lib.hid b89; have bx9' := Lib.hid bx9; have b09' := Lib.hid b09; have hod9' := Lib.hid hod9; have hmv9' := Lib.hid hmv9; have hok9' := Lib.hid hok9; clear b8 hb8 bx8 b08 hok8 hmv8 hm3 hgg hbtg b89 bx9 b09 hod9 hmv9 hok9
            go_upto_region 12 with (go_at_call 122; refine (must_any _ _ _).mono ?_; rintro e w3 ⟨rfl, rfl⟩; simp only [mustE_t, mustE_f])
            clear g5 g6
            generalize w8.setCell ⟨K.g, 6, none⟩ (.int .i64 so) = w9 at *
            have t0 : w9.cell? ⟨w.heap.size, 0, none⟩ = some (.int .i64 tg) := bx9'.out.cell rfl; have v0 : w9.cell? ⟨g7, 0, none⟩ = some (.int .i64 ty') := b89'.out.cell rfl; have v1 : w9.cell? ⟨g7, 1, none⟩ = some (.int .i64 cnt') := b89'.out.cell rfl; have v2 : w9.cell? ⟨g7, 2, none⟩ = some (.slice a3 m3 c3) := b89'.out.cell rfl; have p0 : w9.cell? ⟨w.heap.size + 1, 0, none⟩ = some (.int .i64 0) := b09'.out.cell rfl; have p1 : w9.cell? ⟨w.heap.size + 1, 1, none⟩ = some (.int .i64 0) := b09'.out.cell rfl; have p2 : w9.cell? ⟨w.heap.size + 1, 2, none⟩ = some (.int .i64 0) := b09'.out.cell rfl; have p3 : w9.cell? ⟨w.heap.size + 1, 3, none⟩ = some (.slice none 0 0) := b09'.out.cell rfl; have y0 := b09'.out.frozen 0; have y1 := b09'.out.frozen 1; have y2 := b09'.out.frozen 2; have y3 := b09'.out.frozen 3
            go_wp2_with fail
            refine bodyPost_ret (results_cell_row rfl _ _ (w.heap.size + 1) 78 #[.int .i64 tg, .int .i64 ty', .int .i64 cnt', .slice a3 m3 c3] (0, 0) _ rfl (b09'.out.set4 _ _ _ _) Tryz.underlying78 rfl (by kernel_rfl)) rfl ?_; have hbt := (((((But.refl (w.heap.size + 1) w9).set 0 (.int .i64 tg)).set 1 (.int .i64 ty')).set 2 (.int .i64 cnt')).set 3 (.slice a3 m3 c3)); refine ⟨sv, tk, hok9'.out.but hbt (by omega) (by omega) hsvt (Nat.le_trans hok'.out.old.size (Nat.le_succ _)), hmv9'.out.new_set (Nat.le_succ _) hbt, a3, m3, c3, rfl, ?_, fun kk e h => ?_⟩
            · have h := own_but hod9'.out hbt (fun e => by have := (hod9'.out.lt _ e).1; omega)
              rw [hm3'.out]; exact own_mono h (by omega)
            · have h1 := (hod9'.out.lt kk e).1
              have h2 := hgg'.out kk h
              omega
end Go.Proofs.YtilennmeiaehnaaGreat
