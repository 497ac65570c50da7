/- Chapter 21: the law's own functions: many, vast, huge. | Chapter 21: the law TreeChecks: the walk. -/
import Derived.Test.YtilennmeiaehnaaGreatCo31
import Derived.Test.YtilennmeiaehnaaGreatCo22
import Derived.Test.YtilennmeiaehnaaGreatCo15
import Derived.Test.YtilennmeiaehnaaGreatCo21
import Derived.Test.YtilennmeiaehnaaGreatCo13
namespace Go.Proofs.YtilennmeiaehnaaGreat
open Go.RowKit Tt
set_option linter.unusedVariables false
set_option linter.unusedSimpArgs false

theorem many_any (sa : Option Addr) (sn sc : Nat) (zs : List Shz) (w : World) (h : ShR w sa sn sc zs) :
    Calls Tryz.prog 10 #[.slice sa sn sc] w fun e w' => ∃ b, e = .returned (.bool b) ∧ w = w' := by
  have hmx : sn ≤ 9223372036854775807 := Nat.le_trans h.row.le h.row.max
  have h' := Lib.hid h
  clear h
  go_enter Tryz.func10, Tryz.ntmps10
  go_wp2_with fail
  go_loopw [3] (fun iv wr => ∃ (i : Nat), i ≤ sn ∧ iv = .int .i64 i ∧ w = wr) (fun iv _ => sn - (intOf iv).toNat)
  case atStart => exact ⟨0, by omega, rfl, rfl⟩
  case round =>
    obtain ⟨i, hi, rfl, rfl⟩ := hrel
    by_cases hlt : i < sn
    · have hin : (i : Int) < sn := by omega
      have hww : IntKind.i64.wrap ((i : Int) + 1) = i + 1 := by rw [IntKind.wrap_i64]; omega
      obtain ⟨bb, oo, rfl, hbb, fe⟩ := h'.out.row.elem shc_len (by decide) shz0 hlt
      obtain ⟨⟨⟨la, ln, lc⟩, x⟩, hx⟩ : ∃ z, zs.getD i shz0 = z := ⟨_, rfl⟩
      rw [hx] at fe
      have f0 := fe 0 _ rfl
      simp only [Nat.add_zero] at f0
      clear fe
      have hx' := Lib.hid hx
      clear hx
      by_cases h20 : 20 < ln
      · have d1 : (20 : Int) < (ln : Int) := by omega
        go_wp2_with fail
        go_ret
        exact ⟨_, rfl, rfl⟩
      · have d1 : ¬ (20 : Int) < (ln : Int) := by omega
        have d2 : decide ((20 : Int) < (ln : Int)) = false := by simp; omega
        go_wp2_with fail
        go_roundw
        case rel => exact ⟨i + 1, by omega, by go_num, by first | rfl | trivial⟩
        case measure => simp [intOf]; omega
    · obtain rfl : i = sn := by omega
      go_wp2_with fail
      go_ret
      exact ⟨_, rfl, rfl⟩
set_option maxRecDepth 20000 in
set_option maxHeartbeats 4000000 in
theorem rdirs2_any (f : Nat) (o : Int) (sa : Option Addr) (sn sc : Nat) (ds : List (DirT f)) (w : World) (h : DirsR f w sa sn sc ds) (hN : (flatT f ds).length < 3000000) (hE : ∀ d ∈ ds, (flatS f d).length < 1000000) :
    Calls Tryz.prog 36 #[.agg #[.int .i64 o, .slice sa sn sc]] w fun e w' => ∃ (a : Option Addr) (c : Nat) (vs : List Dz), e = .returned (.slice a (flatT f ds).length c) ∧ w'.ownsRow w.heap.size 42 3 (.slice a (flatT f ds).length c) (flatT f ds).length (fl dvC vs) ∧ FlsR w (flatT f ds) vs ∧ Below w.heap.size w w' := by
  obtain ⟨i0, z0, hi0, hz, hz1, hz2, hz3⟩ := info_of dirI1 dirI2
  obtain ⟨dvs, hdl, hsl, hsub⟩ := h
  have hsn : ds.length = sn := by rw [← hdl]; exact hsl.flen dvC_len (by decide)
  have hsmax := hsl.max
  have hsle := hsl.le
  have hb1 := (Below.refl w.heap.size w).alloc (Nat.le_refl _) (.cells #[.int .i64 o, .slice sa sn sc] 24)
  have bk := Blk.new w 24 #[.int .i64 o, .slice sa sn sc]
  obtain ⟨W1, hW1⟩ : ∃ W1, w.alloc (.cells #[.int .i64 o, .slice sa sn sc] 24) = W1 := ⟨_, rfl⟩
  have hsz1 : W1.heap.size = w.heap.size + 1 := by rw [← hW1]; simp
  rw [hW1] at hb1 bk
  have hsl' := Lib.hid hsl
  have hsub' := Lib.hid hsub
  have hb1' := Lib.hid hb1
  have bk' := Lib.hid bk
  have hsn' := Lib.hid hsn
  clear hsl hsub hb1 bk hsn
  go_enter Tryz.func36, Tryz.ntmps36
  go_wp2_with fail
  go_loopw [3, 4] (fun r0 iv wr => ∃ (i : Nat) (a : Option Addr) (c : Nat) (vs : List Dz), i ≤ sn ∧ iv = .int .i64 i ∧ r0 = .slice a (flatT f (ds.take i)).length c ∧ Hid (wr.ownsRow (w.heap.size + 1) 42 3 (.slice a (flatT f (ds.take i)).length c) (flatT f (ds.take i)).length (fl dvC vs)) ∧ Hid (FlsR w (flatT f (ds.take i)) vs) ∧ Hid (Below W1.heap.size W1 wr)) (fun _ iv _ => sn - (intOf iv).toNat)
  case atStart => exact ⟨0, none, 0, [], by omega, rfl, rfl, Lib.hid (own_nil _ _ _ _), Lib.hid trivial, Lib.hid (Below.refl _ _)⟩
  case round =>
    obtain ⟨i, a, c, vs, hin, rfl, rfl, hown, hfls, hbr⟩ := hrel
    have bkr := bk'.out.late hbr.out
    have q1 : wr.cell? ⟨w.heap.size, 1, none⟩ = some (.slice sa sn sc) := bkr.cell rfl
    by_cases hi : i < sn
    · have hil : (i : Int) < (sn : Int) := by omega
      have hw5 : IntKind.i64.wrap ((i : Int) + 1) = i + 1 := by rw [IntKind.wrap_i64]; omega
      have hb0r := hb1'.out.trans (hbr.out.mono hb1'.out.size)
      have hid : i < ds.length := by rw [hsn'.out]; exact hi
      have hids : i < dvs.length := by rw [hdl]; exact hid
      obtain ⟨b, o', rfl, hblt, fe⟩ := (hsl'.out.mono hb0r).elem dvC_len (by decide) (.slice none 0 0, .slice none 0 0, .slice none 0 0) hi
      rw [getD_el hids] at fe
      have hq2 := hsub'.out i hids hid
      obtain ⟨ua, un, uc, pa, pn, pc, ra, rn, rc, hv⟩ := hq2.v
      have g0 := fe 0 _ rfl
      have g1 := fe 1 _ rfl
      have g2 := fe 2 _ rfl
      clear fe
      rw [hv] at hq2 g0 g1 g2
      simp only [Nat.add_zero] at g0 g1 g2
      have hft2 := flatT_next f ds hid
      have hft := congrArg List.length hft2
      rw [List.length_append] at hft
      have hftl := flatT_take_le f ds (i + 1)
      have hI := rwithin_any f w wr ds[i] _ hq2 hb0r (by have := hE _ (List.getElem_mem hid); omega)
      simp only at hI
      generalize ds[i] = dd at hft hft2 hI
      clear hq2 hv
      have hft' := Lib.hid hft
      have hftl' := Lib.hid hftl
      have hft2' := Lib.hid hft2
      have hI' := Lib.hid hI
      have hb0r' := Lib.hid hb0r
      have bkr' := Lib.hid bkr
      clear hft hftl hft2 hI hb0r bkr
      go_wp2_with fail
      refine hI'.out.mono ?_
      rintro e w6 ⟨a6, c6, us, rfl, ho6, hfl6, hb6⟩
      have hownr := own_later hown.out hb6
      have hsl6 := (Sl.of_own ho6).1
      have hbr6 := hbr.out.trans (hb6.mono hbr.out.size)
      have hsz6 := hbr6.size
      clear g0 g1 g2 q1
      have hownr' := Lib.hid hownr
      have hsl6' := Lib.hid hsl6
      have hbr6' := Lib.hid hbr6
      have ho6' := Lib.hid ho6
      have hb6' := Lib.hid hb6
      have hfl6' := Lib.hid hfl6
      clear hownr hsl6 hbr6 ho6 hb6 hfl6
      go_wp2_with (at_builtin; refine wpList_app2 rfl _ _ 22 rfl (w.heap.size + 1) 42 i0 z0 3 72 Tryz.underlying22 hi0 hz hz1 hz2 hz3 (by decide) (.slice a (flatT f (ds.take i)).length c) (flatT f (ds.take i)).length _ rfl hownr'.out a6 (flatS f dd).length c6 (fl dvC us) rfl hsl6'.out hfl6'.out.one (by have := hft'.out; have := hftl'.out; omega) (by decide) (by omega) ?_; intro a8 c8 w8 ob hg8 hown8; have Ob := Lib.hid ob; have Hg8 := Lib.hid hg8; have Ho8 := Lib.hid hown8; clear ob hg8 hown8)
      have hnm : (flatT f (ds.take i)).length + (flatS f dd).length = (flatT f (ds.take (i + 1))).length := hft'.out.symm
      have ho8 := Ob.out
      rw [hnm, ← fl_append] at ho8
      have hbr8 : Below W1.heap.size W1 w8 := below_grown hbr6'.out Hg8.out hbr6'.out.size (by rw [hsz1]; exact hownr'.out)
      have hfl8 := hfls.out.append hfl6'.out
      rw [← hft2'.out] at hfl8
      have ho8' := Lib.hid ho8
      have hbr8' := Lib.hid hbr8
      have hfl8' := Lib.hid hfl8
      clear ho8 hbr8 hfl8
      go_wp2_with fail
      go_roundw
      case rel => exact ⟨i + 1, a8, c8, vs ++ us, by omega, by go_num, by rw [hnm], ho8', hfl8', hbr8'⟩
      case measure => simp [intOf]; omega
    · obtain rfl : i = sn := by omega
      have hfull : ds.take i = ds := List.take_of_length_le (by rw [hsn'.out]; omega)
      rw [hfull] at hown hfls
      have hbw := hb1'.out.trans (hbr.out.mono hb1'.out.size)
      have hbw' := Lib.hid hbw
      clear hbw
      rw [hfull]
      go_wp2_with fail
      go_ret
      exact ⟨a, c, vs, rfl, own_mono hown.out (by omega), hfls.out, hbw'.out⟩

def capV : Nat → Nat
  | 0 => 0
  | n + 1 => 1 + 6 * capV n
theorem flats_le (f c : Nat) : ∀ (ss : List (Int × DirT f)), (∀ s ∈ ss, (flatS f s.2).length ≤ c) → (flats f ss).length ≤ ss.length * c
  | [], _ => by simp [flats]
  | s :: ss, h => by
    have h1 := h s (List.mem_cons_self ..)
    have h2 := flats_le f c ss (fun x hx => h x (List.mem_cons_of_mem _ hx))
    have e : (flats f (s :: ss)).length = (flatS f s.2).length + (flats f ss).length := by simp [flats]
    rw [e, List.length_cons, Nat.add_mul, Nat.one_mul]
    omega
/-- no more than is gone through -/
def okVt (f n : Nat) (d : DirT f) : Prop := smallD f d ∧ dataD f d ∧ (flatS f d).length ≤ capV n
def PVast (n : Nat) : Prop := ∀ (f : Nat) (w0 w : World) (d : DirT f) (dv : Dz), DirR w0 f d dv → Below w0.heap.size w0 w →
  Calls Tryz.prog 22 #[.agg #[dv.1, dv.2.1, dv.2.2], .int .i64 n] w fun e w' => ∃ b, e = .returned (.bool b) ∧ Below w.heap.size w w' ∧ (b = false → okVt f n d)
set_option maxRecDepth 20000 in
set_option maxHeartbeats 4000000 in
theorem vast_zero : PVast 0 := by
  intro f w0 w d dv hd hb0
  obtain ⟨ta, tn, tc, sa, sn, sc, ba, bn, bc, rfl⟩ := hd.v
  have hb1 := (Below.refl w.heap.size w).alloc (Nat.le_refl _) (.cells #[.slice ta tn tc, .slice sa sn sc, .slice ba bn bc] 42)
  have hd' := Lib.hid hd
  have hb0' := Lib.hid hb0
  clear hd hb0
  go_enter Tryz.func22, Tryz.ntmps22
  have hb1' := Lib.hid hb1
  clear hb1
  go_wp2_with fail
  go_ret
  exact ⟨_, rfl, hb1'.out, fun h => by cases h⟩
set_option maxRecDepth 20000 in
set_option maxHeartbeats 8000000 in
theorem vast_step (n : Nat) (hn : n < 100) (ih : PVast n) : PVast (n + 1) := by
  intro f w0 w d dv hd hb0
  cases f with
  | zero => exact hd.elim
  | succ f =>
  obtain ⟨ta, tn, tc, zs, sa, sn, sc, ds, ba, bn, bc, rfl, htg, hdt, hsl, hdl, hsub, hbl⟩ := hd
  have htn : d.1.length = tn := by rw [hdt, List.length_map]; exact htg.len
  have hsn : d.2.1.length = sn := by rw [← hdl]; exact hsl.flen sbC_len (by decide)
  have hbn : d.2.2.length = bn := hbl.ilen
  have htm : tn ≤ 9223372036854775807 := Nat.le_trans htg.row.le htg.row.max
  have hsm : sn ≤ 9223372036854775807 := Nat.le_trans hsl.le hsl.max
  have hfl : (flatS (f + 1) d).length = (flats f d.2.1).length + 1 := by rw [flatS_succ]; rfl
  have hb1 := (Below.refl w.heap.size w).alloc (Nat.le_refl _) (.cells #[.slice ta tn tc, .slice sa sn sc, .slice ba bn bc] 42)
  have bk := Blk.new w 42 #[.slice ta tn tc, .slice sa sn sc, .slice ba bn bc]
  obtain ⟨W1, hW1⟩ : ∃ W1, w.alloc (.cells #[.slice ta tn tc, .slice sa sn sc, .slice ba bn bc] 42) = W1 := ⟨_, rfl⟩
  rw [hW1] at hb1 bk
  have c0 : W1.cell? ⟨w.heap.size, 0, none⟩ = some (.slice ta tn tc) := bk.cell rfl
  have c1 : W1.cell? ⟨w.heap.size, 1, none⟩ = some (.slice sa sn sc) := bk.cell rfl
  have c2 : W1.cell? ⟨w.heap.size, 2, none⟩ = some (.slice ba bn bc) := bk.cell rfl
  have e1 : (((n + 1 : Nat) : Int) == 0) = false := by simp; omega
  have hw0 : IntKind.i64.wrap (((n + 1 : Nat) : Int) - 1) = n := by rw [IntKind.wrap_i64]; omega
  obtain ⟨nn, hnn⟩ : ∃ x : Int, ((n + 1 : Nat) : Int) = x := ⟨_, rfl⟩
  rw [hnn] at e1 hw0 ⊢
  have hb0' := Lib.hid hb0
  have htg' := Lib.hid htg
  have hdt' := Lib.hid hdt
  have hsl' := Lib.hid hsl
  have hdl' := Lib.hid hdl
  have hsub' := Lib.hid hsub
  have hbl' := Lib.hid hbl
  have hfl' := Lib.hid hfl
  have bk' := Lib.hid bk
  have hW1' := Lib.hid hW1
  have htn' := Lib.hid htn
  have hsn' := Lib.hid hsn
  have hbn' := Lib.hid hbn
  have hnn' := Lib.hid hnn
  have ih' := Lib.hid ih
  clear hb0 htg hdt hsl hdl hsub hbl hfl bk hW1 htn hsn hbn hnn ih
  by_cases q1 : 60 < tn
  · have d1 : decide ((60 : Int) < (tn : Int)) = true := by simp; omega
    go_enter Tryz.func22, Tryz.ntmps22
    have hb1' := Lib.hid hb1
    clear hb1
    go_wp2_with fail
    rw [hW1'.out]
    go_wp2_with fail
    go_ret
    exact ⟨_, rfl, hb1'.out, fun h => by cases h⟩
  have d1 : decide ((60 : Int) < (tn : Int)) = false := by simp; omega
  by_cases q2 : 600 < bn
  · have d2 : decide ((600 : Int) < (bn : Int)) = true := by simp; omega
    go_enter Tryz.func22, Tryz.ntmps22
    have hb1' := Lib.hid hb1
    clear hb1
    go_wp2_with fail
    rw [hW1'.out]
    go_wp2_with fail
    go_ret
    exact ⟨_, rfl, hb1'.out, fun h => by cases h⟩
  have d2 : decide ((600 : Int) < (bn : Int)) = false := by simp; omega
  by_cases q3 : 6 < sn
  · have d3 : decide ((6 : Int) < (sn : Int)) = true := by simp; omega
    go_enter Tryz.func22, Tryz.ntmps22
    have hb1' := Lib.hid hb1
    clear hb1
    go_wp2_with fail
    rw [hW1'.out]
    go_wp2_with fail
    go_ret
    exact ⟨_, rfl, hb1'.out, fun h => by cases h⟩
  have d3 : decide ((6 : Int) < (sn : Int)) = false := by simp; omega
  go_enter Tryz.func22, Tryz.ntmps22
  have hb1' := Lib.hid hb1
  clear hb1
  go_wp2_with fail
  rw [hW1'.out]
  go_wp2_with fail
  clear d1 d2 d3 c1 c2
  go_loopw [5] (fun iv wr => ∃ k : Nat, k ≤ tn ∧ iv = .int .i64 k ∧ Hid (∀ i (h : i < d.1.length), i < k → d.1[i].2.2.2.length ≤ 600) ∧ wr = W1) (fun iv _ => tn - (intOf iv).toNat)
  case atStart => exact ⟨0, by omega, rfl, Lib.hid (fun i _ h => by omega), rfl⟩
  case round =>
    obtain ⟨k, hk, rfl, hall, rfl⟩ := hrel
    by_cases hlt : k < tn
    · have hil : (k : Int) < (tn : Int) := by omega
      have hw1 : IntKind.i64.wrap ((k : Int) + 1) = k + 1 := by rw [IntKind.wrap_i64]; omega
      obtain ⟨b, o, rfl, hblt, f0, f1, f2, f3, hrd⟩ := (htg'.out.mono (hb0'.out.trans (hb1'.out.mono hb0'.out.size))).at hlt
      have hkd : k < d.1.length := by rw [htn'.out]; exact hlt
      have hgx : d.1[k] = tagz (zs.getD k tz0) := by
        have h1 : k < zs.length := by rw [htg'.out.len]; exact hlt
        simp only [hdt'.out, List.getElem_map]
        rw [getD_el h1]
      obtain ⟨⟨⟨y, t, cn, xa, xn, xc⟩, dd⟩, hzi⟩ : ∃ z, zs.getD k tz0 = z := ⟨_, rfl⟩
      rw [hzi] at f0 f1 f2 f3 hrd hgx
      simp only [tagz] at f0 f1 f2 f3 hrd hgx
      have hxn : dd.length = xn := hrd.ilen
      have hgx' := Lib.hid hgx
      have hzi' := Lib.hid hzi
      have hrd' := Lib.hid hrd
      have hxn' := Lib.hid hxn
      clear hgx hzi hrd hxn
      by_cases q4 : 600 < xn
      · have d4 : decide ((600 : Int) < (xn : Int)) = true := by simp; omega
        go_wp2_with fail
        go_ret
        exact ⟨_, rfl, hb1'.out, fun h => by cases h⟩
      · have d4 : decide ((600 : Int) < (xn : Int)) = false := by simp; omega
        have hall2 : ∀ i (h : i < d.1.length), i < k + 1 → d.1[i].2.2.2.length ≤ 600 := fun i h hi => by
          by_cases hik : i = k
          · subst hik; rw [hgx'.out]; show dd.length ≤ 600; rw [hxn'.out]; omega
          · exact hall.out i h (by omega)
        have hall2' := Lib.hid hall2
        clear hall2
        go_wp2_with fail
        go_roundw
        case rel => exact ⟨k + 1, by omega, by go_num, hall2', by first | rfl | trivial⟩
        case measure => simp [intOf]; omega
    · obtain rfl : k = tn := by omega
      have c1 : wr.cell? ⟨w.heap.size, 1, none⟩ = some (.slice sa sn sc) := bk'.out.cell rfl
      go_wp2_with fail
      clear c1 c0
      go_loopw [6] (fun iv wr2 => ∃ j : Nat, j ≤ sn ∧ iv = .int .i64 j ∧ Hid (∀ i (h : i < d.2.1.length), i < j → okVt f n d.2.1[i].2) ∧ Hid (Below wr.heap.size wr wr2)) (fun iv _ => sn - (intOf iv).toNat)
      case atStart => exact ⟨0, by omega, rfl, Lib.hid (fun i _ h => by omega), Lib.hid (Below.refl _ _)⟩
      case round =>
        obtain ⟨j, hj, rfl, hall2, hbb⟩ := hrel
        rename World => wq
        have bkq := bk'.out.late hbb.out
        have c1 : wq.cell? ⟨w.heap.size, 1, none⟩ = some (.slice sa sn sc) := bkq.cell rfl
        have hbw := hb1'.out.trans (hbb.out.mono hb1'.out.size)
        by_cases hlt : j < sn
        · have hil : (j : Int) < (sn : Int) := by omega
          have hw1 : IntKind.i64.wrap ((j : Int) + 1) = j + 1 := by rw [IntKind.wrap_i64]; omega
          have hb0q := hb0'.out.trans (hbw.mono hb0'.out.size)
          have hid : j < d.2.1.length := by rw [hsn'.out]; exact hlt
          have hids : j < ds.length := by rw [hdl'.out]; exact hid
          obtain ⟨xb, xo, rfl, hblt2, fe⟩ := (hsl'.out.mono hb0q).elem sbC_len (by decide) (0, (.slice none 0 0, .slice none 0 0, .slice none 0 0)) hlt
          rw [getD_el hids] at fe
          obtain ⟨hq1, hq2⟩ := hsub'.out j hids hid
          obtain ⟨ua, un, uc, ra, rn, rc, xa, xn, xc, hv⟩ := hq2.v
          have g1 := fe 1 _ rfl
          have g2 := fe 2 _ rfl
          have g3 := fe 3 _ rfl
          clear fe
          rw [hv] at hq2 g1 g2 g3
          simp only at g1 g2 g3
          have hI := ih'.out f w0 wq d.2.1[j].2 (.slice ua un uc, .slice ra rn rc, .slice xa xn xc) hq2 hb0q
          simp only at hI
          have hb0q' := Lib.hid hb0q
          have hq1' := Lib.hid hq1
          have hq2' := Lib.hid hq2
          have hv' := Lib.hid hv
          have hI' := Lib.hid hI
          have hbw' := Lib.hid hbw
          have bkq' := Lib.hid bkq
          clear hb0q hq1 hq2 hv hI hbw bkq
          go_wp2_with fail
          refine hI'.out.mono ?_
          rintro e w3 ⟨bv, rfl, hb3, hpost⟩
          have hbw3 := hbw'.out.trans (hb3.mono hbw'.out.size)
          have hbb3 := hbb.out.trans (hb3.mono hbb.out.size)
          clear c1 g1 g2 g3
          cases bv with
          | true =>
            have hbw3' := Lib.hid hbw3
            have hbb3' := Lib.hid hbb3
            have hb3' := Lib.hid hb3
            have hpost' := Lib.hid hpost
            clear hbw3 hbb3 hb3 hpost
            go_wp2_with fail
            go_ret
            exact ⟨_, rfl, hbw3'.out, fun h => by cases h⟩
          | false =>
            have hp := hpost rfl
            have hall3 : ∀ i (h : i < d.2.1.length), i < j + 1 → okVt f n d.2.1[i].2 := fun i h hi => by
              by_cases hij : i = j
              · subst hij; exact hp
              · exact hall2.out i h (by omega)
            clear hpost
            have hbw3' := Lib.hid hbw3
            have hbb3' := Lib.hid hbb3
            have hb3' := Lib.hid hb3
            have hp' := Lib.hid hp
            have hall3' := Lib.hid hall3
            clear hbw3 hbb3 hb3 hp hall3
            go_wp2_with fail
            go_roundw
            case rel => exact ⟨j + 1, by omega, by go_num, hall3', hbb3'⟩
            case measure => simp [intOf]; omega
        · obtain rfl : j = sn := by omega
          have hok : okVt (f + 1) (n + 1) d := by
            have hs : ∀ s ∈ d.2.1, okVt f n s.2 := fun s hs => by
              obtain ⟨i, hi, rfl⟩ := List.getElem_of_mem hs
              exact hall2.out i hi (by rw [← hsn'.out]; exact hi)
            refine ⟨⟨by rw [htn'.out]; omega, by rw [hbn'.out]; omega, by rw [hsn'.out]; omega, fun s h => (hs s h).1⟩, ⟨fun t ht => ?_, fun s h => (hs s h).2.1⟩, ?_⟩
            · obtain ⟨i, hi, rfl⟩ := List.getElem_of_mem ht
              exact hall.out i hi (by rw [← htn'.out]; exact hi)
            · have h1 := flats_le f (capV n) d.2.1 (fun s h => (hs s h).2.2)
              have h2 : d.2.1.length * capV n ≤ 6 * capV n := Nat.mul_le_mul_right _ (by rw [hsn'.out]; omega)
              rw [hfl'.out]
              show _ ≤ 1 + 6 * capV n
              omega
          have hok' := Lib.hid hok
          have hbw' := Lib.hid hbw
          clear hok hbw
          go_wp2_with fail
          go_ret
          exact ⟨_, rfl, hbw'.out, fun _ => hok'.out⟩
theorem vast_any : ∀ n, n ≤ 8 → PVast n := by
  intro n
  induction n with
  | zero => intro _; exact vast_zero
  | succ n ih => intro h; exact vast_step n (by omega) (ih (by omega))
end Go.Proofs.YtilennmeiaehnaaGreat

namespace Go.Proofs.YtilennmeiaehnaaGreat
open Go.RowKit Tt
set_option linter.unusedVariables false
set_option linter.unusedSimpArgs false

theorem flatT_cap (f c : Nat) : ∀ (ds : List (DirT f)), (∀ d ∈ ds, (flatS f d).length ≤ c) → (flatT f ds).length ≤ ds.length * c
  | [], _ => by simp [flatT]
  | d :: ds, h => by
    have h1 := h d (List.mem_cons_self ..)
    have h2 := flatT_cap f c ds (fun x hx => h x (List.mem_cons_of_mem _ hx))
    have e : (flatT f (d :: ds)).length = (flatS f d).length + (flatT f ds).length := by simp [flatT]
    rw [e, List.length_cons, Nat.add_mul, Nat.one_mul]
    omega
theorem cap8 : capV 8 = 335923 := by decide
/-- a tree is gone through -/
def okHt (f : Nat) (ds : List (DirT f)) : Prop := (∀ d ∈ ds, okVt f 8 d) ∧ ds.length ≤ 6 ∧ (flatT f ds).length ≤ 40
set_option maxRecDepth 20000 in
set_option maxHeartbeats 4000000 in
theorem huge_any (f : Nat) (o : Int) (sa : Option Addr) (sn sc : Nat) (ds : List (DirT f)) (w : World) (h : DirsR f w sa sn sc ds) :
    Calls Tryz.prog 9 #[.agg #[.int .i64 o, .slice sa sn sc]] w fun e w' => ∃ b, e = .returned (.bool b) ∧ Below w.heap.size w w' ∧ (b = false → okHt f ds) := by
  obtain ⟨dvs, hdl, hsl, hsub⟩ := h
  have hsn : ds.length = sn := by rw [← hdl]; exact hsl.flen dvC_len (by decide)
  have hsmax := hsl.max
  have hsle := hsl.le
  have hb1 := (Below.refl w.heap.size w).alloc (Nat.le_refl _) (.cells #[.int .i64 o, .slice sa sn sc] 24)
  have bk := Blk.new w 24 #[.int .i64 o, .slice sa sn sc]
  obtain ⟨W1, hW1⟩ : ∃ W1, w.alloc (.cells #[.int .i64 o, .slice sa sn sc] 24) = W1 := ⟨_, rfl⟩
  rw [hW1] at hb1 bk
  have hsl' := Lib.hid hsl
  have hsub' := Lib.hid hsub
  have hb1' := Lib.hid hb1
  have bk' := Lib.hid bk
  have hsn' := Lib.hid hsn
  have hW1' := Lib.hid hW1
  clear hsl hsub hb1 bk hsn hW1
  go_enter Tryz.func9, Tryz.ntmps9
  go_wp2_with fail
  rw [hW1'.out]
  go_loopw [3] (fun iv wr => ∃ i : Nat, i ≤ sn ∧ iv = .int .i64 i ∧ Hid (∀ k (h : k < ds.length), k < i → okVt f 8 ds[k]) ∧ Hid (Below W1.heap.size W1 wr)) (fun iv _ => sn - (intOf iv).toNat)
  case atStart => exact ⟨0, by omega, rfl, Lib.hid (fun k _ h => by omega), Lib.hid (Below.refl _ _)⟩
  case round =>
    obtain ⟨i, hi, rfl, hall, hbr⟩ := hrel
    have bkr := bk'.out.late hbr.out
    have q1 : wr.cell? ⟨w.heap.size, 1, none⟩ = some (.slice sa sn sc) := bkr.cell rfl
    have hbw := hb1'.out.trans (hbr.out.mono hb1'.out.size)
    by_cases hlt : i < sn
    · have hil : (i : Int) < (sn : Int) := by omega
      have hw5 : IntKind.i64.wrap ((i : Int) + 1) = i + 1 := by rw [IntKind.wrap_i64]; omega
      have hid : i < ds.length := by rw [hsn'.out]; exact hlt
      have hids : i < dvs.length := by rw [hdl]; exact hid
      obtain ⟨b, o', rfl, hblt, fe⟩ := (hsl'.out.mono hbw).elem dvC_len (by decide) (.slice none 0 0, .slice none 0 0, .slice none 0 0) hlt
      rw [getD_el hids] at fe
      have hq2 := hsub'.out i hids hid
      obtain ⟨ua, un, uc, pa, pn, pc, ra, rn, rc, hv⟩ := hq2.v
      have g0 := fe 0 _ rfl
      have g1 := fe 1 _ rfl
      have g2 := fe 2 _ rfl
      clear fe
      rw [hv] at hq2 g0 g1 g2
      simp only [Nat.add_zero] at g0 g1 g2
      have hI := vast_any 8 (by omega) f w wr ds[i] (.slice ua un uc, .slice pa pn pc, .slice ra rn rc) hq2 hbw
      simp only at hI
      have hq2' := Lib.hid hq2
      have hv' := Lib.hid hv
      have hI' := Lib.hid hI
      have hbw' := Lib.hid hbw
      have bkr' := Lib.hid bkr
      clear hq2 hv hI hbw bkr
      go_wp2_with fail
      refine hI'.out.mono ?_
      rintro e w3 ⟨bv, rfl, hb3, hpost⟩
      have hbw3 := hbw'.out.trans (hb3.mono hbw'.out.size)
      have hbr3 := hbr.out.trans (hb3.mono hbr.out.size)
      clear g0 g1 g2 q1
      cases bv with
      | true =>
        have hbw3' := Lib.hid hbw3
        have hbr3' := Lib.hid hbr3
        have hb3' := Lib.hid hb3
        have hpost' := Lib.hid hpost
        clear hbw3 hbr3 hb3 hpost
        go_wp2_with fail
        go_ret
        exact ⟨_, rfl, hbw3'.out, fun h => by cases h⟩
      | false =>
        have hp := hpost rfl
        have hall3 : ∀ k (h : k < ds.length), k < i + 1 → okVt f 8 ds[k] := fun k h hk => by
          by_cases hij : k = i
          · subst hij; exact hp
          · exact hall.out k h (by omega)
        clear hpost
        have hbw3' := Lib.hid hbw3
        have hbr3' := Lib.hid hbr3
        have hb3' := Lib.hid hb3
        have hp' := Lib.hid hp
        have hall3' := Lib.hid hall3
        clear hbw3 hbr3 hb3 hp hall3
        go_wp2_with fail
        go_roundw
        case rel => exact ⟨i + 1, by omega, by go_num, hall3', hbr3'⟩
        case measure => simp [intOf]; omega
    · obtain rfl : i = sn := by omega
      have hall2 : ∀ d ∈ ds, okVt f 8 d := fun d hd => by
        obtain ⟨k, hk, rfl⟩ := List.getElem_of_mem hd
        exact hall.out k hk (by rw [← hsn'.out]; exact hk)
      by_cases h6 : 6 < i
      · have d1 : decide ((6 : Int) < (i : Int)) = true := by simp; omega
        have hbw' := Lib.hid hbw
        have hall2' := Lib.hid hall2
        clear hbw hall2
        go_wp2_with fail
        go_ret
        exact ⟨_, rfl, hbw'.out, fun h => by cases h⟩
      · have d1 : decide ((6 : Int) < (i : Int)) = false := by simp; omega
        have q0 : wr.cell? ⟨w.heap.size, 0, none⟩ = some (.int .i64 o) := bkr.cell rfl
        have hcap := flatT_cap f (capV 8) ds (fun d hd => (hall2 d hd).2.2)
        have hcap2 : ds.length * capV 8 ≤ 6 * capV 8 := Nat.mul_le_mul_right _ (by rw [hsn'.out]; omega)
        rw [cap8] at hcap hcap2
        have hDr : DirsR f wr sa i sc ds := DirsR.mono (w := w) ⟨dvs, hdl, hsl'.out, hsub'.out⟩ hbw
        have hDi := rdirs2_any f o sa i sc ds wr hDr (by omega) (fun d hd => by have := (hall2 d hd).2.2; rw [cap8] at this; omega)
        obtain ⟨N, hN⟩ : ∃ N, (flatT f ds).length = N := ⟨_, rfl⟩
        have hNl : N ≤ 3000000 := by omega
        rw [hN] at hDi
        clear hcap hcap2
        have hbw' := Lib.hid hbw
        have hall2' := Lib.hid hall2
        have hDr' := Lib.hid hDr
        have hDi' := Lib.hid hDi
        have hN' := Lib.hid hN
        clear hbw hall2 hDr hDi hN
        go_wp2_with fail
        refine hDi'.out.mono ?_
        rintro e w4 ⟨a4, c4, vs4, rfl, ho4, hf4, hb4⟩
        have hbw4 := hbw'.out.trans (hb4.mono hbw'.out.size)
        have ho4' := Lib.hid ho4
        have hf4' := Lib.hid hf4
        have hb4' := Lib.hid hb4
        have hbw4' := Lib.hid hbw4
        clear ho4 hf4 hb4 hbw4
        clear q0 q1
        by_cases h40 : 40 < N
        · have d2 : decide ((40 : Int) < (N : Int)) = true := by simp; omega
          go_wp2_with fail
          go_ret
          exact ⟨_, rfl, hbw4'.out, fun h => by cases h⟩
        · have d2 : decide ((40 : Int) < (N : Int)) = false := by simp; omega
          go_wp2_with fail
          go_ret
          exact ⟨_, rfl, hbw4'.out, fun _ => ⟨hall2'.out, by rw [hsn'.out]; omega, by rw [hN'.out]; omega⟩⟩
end Go.Proofs.YtilennmeiaehnaaGreat
