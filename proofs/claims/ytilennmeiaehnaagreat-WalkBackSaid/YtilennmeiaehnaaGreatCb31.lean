/- Chapter 21: the law's own functions: many, vast, huge. | Chapter 21: the law TreeChecks: the walk. | Chapters 21, 22: a tree's bytes are bytes, and not too many. Plain. | Zeros behind bytes that the call owns: 'append(b, make([]byte, k)...)'. -/
import Derived.Test.YtilennmeiaehnaaGreatCb30
import Derived.Test.YtilennmeiaehnaaGreatCb23
import Derived.Test.YtilennmeiaehnaaGreatCb27
import Derived.Test.YtilennmeiaehnaaGreatCb13
namespace Go.Proofs.YtilennmeiaehnaaGreat
open Go.RowKit Tt
set_option linter.unusedVariables false
set_option linter.unusedSimpArgs false

/-- a directory is so deep at most -/
def dpD : (f : Nat) → Nat → DirT f → Prop
  | 0, _, _ => True
  | _ + 1, 0, _ => False
  | f + 1, n + 1, d => ∀ s ∈ d.2.1, dpD f n s.2
def okVw (f n : Nat) (d : DirT f) : Prop := okVt f n d ∧ dpD f n d
def PVastW (n : Nat) : Prop := ∀ (f : Nat) (w0 w : World) (d : DirT f) (dv : Dz), DirR w0 f d dv → Below w0.heap.size w0 w →
  Calls Tryz.prog 66 #[.agg #[dv.1, dv.2.1, dv.2.2], .int .i64 n] w fun e w' => ∃ b, e = .returned (.bool b) ∧ Below w.heap.size w w' ∧ (b = false → okVw f n d)
set_option maxRecDepth 20000 in
set_option maxHeartbeats 4000000 in
theorem vast_zeroW : PVastW 0 := by
  intro f w0 w d dv hd hb0; obtain ⟨ta, tn, tc, sa, sn, sc, ba, bn, bc, rfl⟩ := hd.v; have hb1 := (Below.refl w.heap.size w).alloc (Nat.le_refl _) (.cells #[.slice ta tn tc, .slice sa sn sc, .slice ba bn bc] 42); have hd' := Lib.hid hd; have hb0' := Lib.hid hb0; clear hd hb0
  go_enter Tryz.func66, Tryz.ntmps66
  have hb1' := Lib.hid hb1; clear hb1
  go_wp2_with fail
  go_ret
  exact ⟨_, rfl, hb1'.out, fun h => by cases h⟩
set_option maxRecDepth 20000 in
set_option maxHeartbeats 8000000 in
theorem vast_stepW (n : Nat) (hn : n < 100) (ih : PVastW n) : PVastW (n + 1) := by
  intro f w0 w d dv hd hb0
  cases f with
  | zero => exact hd.elim
  | succ f =>
  obtain ⟨ta, tn, tc, zs, sa, sn, sc, ds, ba, bn, bc, rfl, htg, hdt, hsl, hdl, hsub, hbl⟩ := hd; have htn : d.1.length = tn := by rw [hdt, List.length_map]; exact htg.len
  have hsn : d.2.1.length = sn := by rw [← hdl]; exact hsl.flen sbC_len (by decide)
  have hbn : d.2.2.length = bn := hbl.ilen; have htm : tn ≤ 9223372036854775807 := Nat.le_trans htg.row.le htg.row.max; have hsm : sn ≤ 9223372036854775807 := Nat.le_trans hsl.le hsl.max; have hfl : (flatS (f + 1) d).length = (flats f d.2.1).length + 1 := by rw [flatS_succ]; rfl
  have hb1 := (Below.refl w.heap.size w).alloc (Nat.le_refl _) (.cells #[.slice ta tn tc, .slice sa sn sc, .slice ba bn bc] 42); have bk := Blk.new w 42 #[.slice ta tn tc, .slice sa sn sc, .slice ba bn bc]; obtain ⟨W1, hW1⟩ : ∃ W1, w.alloc (.cells #[.slice ta tn tc, .slice sa sn sc, .slice ba bn bc] 42) = W1 := ⟨_, rfl⟩; rw [hW1] at hb1 bk; have c0 : W1.cell? ⟨w.heap.size, 0, none⟩ = some (.slice ta tn tc) := bk.cell rfl; have c1 : W1.cell? ⟨w.heap.size, 1, none⟩ = some (.slice sa sn sc) := bk.cell rfl; have c2 : W1.cell? ⟨w.heap.size, 2, none⟩ = some (.slice ba bn bc) := bk.cell rfl; have e1 : (((n + 1 : Nat) : Int) == 0) = false := by simp; omega
  have hw0 : IntKind.i64.wrap (((n + 1 : Nat) : Int) - 1) = n := by rw [IntKind.wrap_i64]; omega
  obtain ⟨nn, hnn⟩ : ∃ x : Int, ((n + 1 : Nat) : Int) = x := ⟨_, rfl⟩; rw [hnn] at e1 hw0 ⊢; have hb0' := Lib.hid hb0; have htg' := Lib.hid htg; have hdt' := Lib.hid hdt; have hsl' := Lib.hid hsl; have hdl' := Lib.hid hdl; have hsub' := Lib.hid hsub; have hbl' := Lib.hid hbl; have hfl' := Lib.hid hfl; have bk' := Lib.hid bk; have hW1' := Lib.hid hW1; have htn' := Lib.hid htn; have hsn' := Lib.hid hsn; have hbn' := Lib.hid hbn; have hnn' := Lib.hid hnn; have ih' := Lib.hid ih; clear hb0 htg hdt hsl hdl hsub hbl hfl bk hW1 htn hsn hbn hnn ih
  by_cases q1 : 60 < tn
  · have d1 : decide ((60 : Int) < (tn : Int)) = true := by simp; omega
    go_enter Tryz.func66, Tryz.ntmps66
    have hb1' := Lib.hid hb1; clear hb1
    go_wp2_with fail
    rw [hW1'.out]
    go_wp2_with fail
    go_ret
    exact ⟨_, rfl, hb1'.out, fun h => by cases h⟩
  have d1 : decide ((60 : Int) < (tn : Int)) = false := by simp; omega
  by_cases q2 : 600 < bn
  · have d2 : decide ((600 : Int) < (bn : Int)) = true := by simp; omega
    go_enter Tryz.func66, Tryz.ntmps66
    have hb1' := Lib.hid hb1; clear hb1
    go_wp2_with fail
    rw [hW1'.out]
    go_wp2_with fail
    go_ret
    exact ⟨_, rfl, hb1'.out, fun h => by cases h⟩
  have d2 : decide ((600 : Int) < (bn : Int)) = false := by simp; omega
  by_cases q3 : 6 < sn
  · have d3 : decide ((6 : Int) < (sn : Int)) = true := by simp; omega
    go_enter Tryz.func66, Tryz.ntmps66
    have hb1' := Lib.hid hb1; clear hb1
    go_wp2_with fail
    rw [hW1'.out]
    go_wp2_with fail
    go_ret
    exact ⟨_, rfl, hb1'.out, fun h => by cases h⟩
  have d3 : decide ((6 : Int) < (sn : Int)) = false := by simp; omega
  go_enter Tryz.func66, Tryz.ntmps66
  have hb1' := Lib.hid hb1; clear hb1
  go_wp2_with fail
  rw [hW1'.out]
  go_wp2_with fail
  clear d1 d2 d3 c1 c2
  go_loopw [5] (fun iv wr => ∃ k : Nat, k ≤ tn ∧ iv = .int .i64 k ∧ Hid (∀ i (h : i < d.1.length), i < k → d.1[i].2.2.2.length ≤ 600) ∧ wr = W1) (fun iv _ => tn - (intOf iv).toNat)
  case atStart => exact ⟨0, by omega, rfl, Lib.hid (fun i _ h => by omega), rfl⟩
  case round =>
    obtain ⟨k, hk, rfl, hall, rfl⟩ := hrel
    by_cases hlt : k < tn
    · have hil : (k : Int) < (tn : Int) := by omega
      have hw1 : IntKind.i64.wrap ((k : Int) + 1) = k + 1 := by rw [IntKind.wrap_i64]; omega
      obtain ⟨b, o, rfl, hblt, f0, f1, f2, f3, hrd⟩ := (htg'.out.mono (hb0'.out.trans (hb1'.out.mono hb0'.out.size))).at hlt; have hkd : k < d.1.length := by rw [htn'.out]; exact hlt
      have hgx : d.1[k] = tagz (zs.getD k tz0) := by
        have h1 : k < zs.length := by rw [htg'.out.len]; exact hlt
        simp only [hdt'.out, List.getElem_map]; rw [getD_el h1]
      obtain ⟨⟨⟨y, t, cn, xa, xn, xc⟩, dd⟩, hzi⟩ : ∃ z, zs.getD k tz0 = z := ⟨_, rfl⟩; rw [hzi] at f0 f1 f2 f3 hrd hgx; simp only [tagz] at f0 f1 f2 f3 hrd hgx; have hxn : dd.length = xn := hrd.ilen; have hgx' := Lib.hid hgx; have hzi' := Lib.hid hzi; have hrd' := Lib.hid hrd; have hxn' := Lib.hid hxn; clear hgx hzi hrd hxn
      by_cases q4 : 600 < xn
      · have d4 : decide ((600 : Int) < (xn : Int)) = true := by simp; omega
        go_wp2_with fail
        go_ret
        exact ⟨_, rfl, hb1'.out, fun h => by cases h⟩
      · have d4 : decide ((600 : Int) < (xn : Int)) = false := by simp; omega
        have hall2 : ∀ i (h : i < d.1.length), i < k + 1 → d.1[i].2.2.2.length ≤ 600 := fun i h hi => by
          by_cases hik : i = k
          · subst hik; rw [hgx'.out]; show dd.length ≤ 600; rw [hxn'.out]; omega
          · exact hall.out i h (by omega)
        have hall2' := Lib.hid hall2; clear hall2
        go_wp2_with fail
        go_roundw
        case rel => exact ⟨k + 1, by omega, by go_num, hall2', by first | rfl | trivial⟩
        case measure => simp [intOf]; omega
    · obtain rfl : k = tn := by omega
      have c1 : wr.cell? ⟨w.heap.size, 1, none⟩ = some (.slice sa sn sc) := bk'.out.cell rfl
      go_wp2_with fail
      clear c1 c0
      go_loopw [6] (fun iv wr2 => ∃ j : Nat, j ≤ sn ∧ iv = .int .i64 j ∧ Hid (∀ i (h : i < d.2.1.length), i < j → okVw f n d.2.1[i].2) ∧ Hid (Below wr.heap.size wr wr2)) (fun iv _ => sn - (intOf iv).toNat)
      case atStart => exact ⟨0, by omega, rfl, Lib.hid (fun i _ h => by omega), Lib.hid (Below.refl _ _)⟩
      case round =>
        obtain ⟨j, hj, rfl, hall2, hbb⟩ := hrel
        rename World => wq
        have bkq := bk'.out.late hbb.out; have c1 : wq.cell? ⟨w.heap.size, 1, none⟩ = some (.slice sa sn sc) := bkq.cell rfl; have hbw := hb1'.out.trans (hbb.out.mono hb1'.out.size)
        by_cases hlt : j < sn
        · have hil : (j : Int) < (sn : Int) := by omega
          have hw1 : IntKind.i64.wrap ((j : Int) + 1) = j + 1 := by rw [IntKind.wrap_i64]; omega
          have hb0q := hb0'.out.trans (hbw.mono hb0'.out.size); have hid : j < d.2.1.length := by rw [hsn'.out]; exact hlt
          have hids : j < ds.length := by rw [hdl'.out]; exact hid
          obtain ⟨xb, xo, rfl, hblt2, fe⟩ := (hsl'.out.mono hb0q).elem sbC_len (by decide) (0, (.slice none 0 0, .slice none 0 0, .slice none 0 0)) hlt; rw [getD_el hids] at fe; obtain ⟨hq1, hq2⟩ := hsub'.out j hids hid; obtain ⟨ua, un, uc, ra, rn, rc, xa, xn, xc, hv⟩ := hq2.v; have g1 := fe 1 _ rfl; have g2 := fe 2 _ rfl; have g3 := fe 3 _ rfl; clear fe; rw [hv] at hq2 g1 g2 g3; simp only at g1 g2 g3; have hI := ih'.out f w0 wq d.2.1[j].2 (.slice ua un uc, .slice ra rn rc, .slice xa xn xc) hq2 hb0q; simp only at hI; have hb0q' := Lib.hid hb0q; have hq1' := Lib.hid hq1; have hq2' := Lib.hid hq2; have hv' := Lib.hid hv; have hI' := Lib.hid hI; have hbw' := Lib.hid hbw; have bkq' := Lib.hid bkq; clear hb0q hq1 hq2 hv hI hbw bkq
          go_wp2_with fail
          refine hI'.out.mono ?_; rintro e w3 ⟨bv, rfl, hb3, hpost⟩; have hbw3 := hbw'.out.trans (hb3.mono hbw'.out.size); have hbb3 := hbb.out.trans (hb3.mono hbb.out.size); clear c1 g1 g2 g3
          cases bv with
          | true =>
            have hbw3' := Lib.hid hbw3; have hbb3' := Lib.hid hbb3; have hb3' := Lib.hid hb3; have hpost' := Lib.hid hpost; clear hbw3 hbb3 hb3 hpost
            go_wp2_with fail
            go_ret
            exact ⟨_, rfl, hbw3'.out, fun h => by cases h⟩
          | false =>
            have hp := hpost rfl
            have hall3 : ∀ i (h : i < d.2.1.length), i < j + 1 → okVw f n d.2.1[i].2 := fun i h hi => by
              by_cases hij : i = j
              · subst hij; exact hp
              · exact hall2.out i h (by omega)
            clear hpost; have hbw3' := Lib.hid hbw3; have hbb3' := Lib.hid hbb3; have hb3' := Lib.hid hb3; have hp' := Lib.hid hp; have hall3' := Lib.hid hall3; clear hbw3 hbb3 hb3 hp hall3
            go_wp2_with fail
            go_roundw
            case rel => exact ⟨j + 1, by omega, by go_num, hall3', hbb3'⟩
            case measure => simp [intOf]; omega
        · obtain rfl : j = sn := by omega
          have hok : okVw (f + 1) (n + 1) d := by
            have hs : ∀ s ∈ d.2.1, okVw f n s.2 := fun s hs => by
              obtain ⟨i, hi, rfl⟩ := List.getElem_of_mem hs; exact hall2.out i hi (by rw [← hsn'.out]; exact hi)
            refine ⟨⟨⟨by rw [htn'.out]; omega, by rw [hbn'.out]; omega, by rw [hsn'.out]; omega, fun s h => (hs s h).1.1⟩, ⟨fun t ht => ?_, fun s h => (hs s h).1.2.1⟩, ?_⟩, fun s h => (hs s h).2⟩
            · obtain ⟨i, hi, rfl⟩ := List.getElem_of_mem ht
              exact hall.out i hi (by rw [← htn'.out]; exact hi)
            · have h1 := flats_le f (capV n) d.2.1 (fun s h => (hs s h).1.2.2)
              have h2 : d.2.1.length * capV n ≤ 6 * capV n := Nat.mul_le_mul_right _ (by rw [hsn'.out]; omega); rw [hfl'.out]
              show _ ≤ 1 + 6 * capV n
              omega
          have hok' := Lib.hid hok; have hbw' := Lib.hid hbw; clear hok hbw
          go_wp2_with fail
          go_ret
          exact ⟨_, rfl, hbw'.out, fun _ => hok'.out⟩
theorem vast_anyW : ∀ n, n ≤ 8 → PVastW n := by
  intro n
  induction n with
  | zero => intro _; exact vast_zeroW
  | succ n ih => intro h; exact vast_stepW n (by omega) (ih (by omega))
end Go.Proofs.YtilennmeiaehnaaGreat

namespace Go.Proofs.YtilennmeiaehnaaGreat
open Go.RowKit Tt
set_option linter.unusedVariables false
set_option linter.unusedSimpArgs false

/-- a tree is gone through -/
def okHw (f : Nat) (ds : List (DirT f)) : Prop := (∀ d ∈ ds, okVw f 8 d) ∧ ds.length ≤ 6 ∧ (flatT f ds).length ≤ 40
theorem flatMap_sameW {α β : Type} {f g : α → List β} : ∀ (l : List α), (∀ x ∈ l, f x = g x) → l.flatMap f = l.flatMap g
  | [], _ => rfl
  | x :: l, h => by
    rw [List.flatMap_cons, List.flatMap_cons, h x (List.mem_cons_self ..), flatMap_sameW l fun y hy => h y (List.mem_cons_of_mem _ hy)]
/-- what is not too deep is a directory of any depth that is not less -/
theorem cut_dir {w : World} : ∀ (n f g : Nat), n ≤ g → ∀ (d : DirT f) (v : Dz), DirR w f d v → dpD f n d → ∃ d' : DirT g, DirR w g d' v ∧ flatS g d' = flatS f d ∧ (bytD f d → bytD g d') ∧ (smallD f d → smallD g d') ∧ (dataD f d → dataD g d') := by
  intro n
  induction n with
  | zero =>
    intro f g _ d v hd hn
    cases f with
    | zero => exact hd.elim
    | succ f => exact hn.elim
  | succ n ih =>
    intro f g hng d v hd hn
    cases f with
    | zero => exact hd.elim
    | succ f =>
    obtain ⟨g, rfl⟩ : ∃ k, g = k + 1 := ⟨g - 1, by omega⟩; obtain ⟨ta, tn, tc, zs, sa, sn, sc, ds, ba, bn, bc, hv, htg, hdt, hsl, hdl, hsub, hbl⟩ := hd
    have hex : ∀ i, ∃ d' : DirT g, ∀ (h : i < ds.length) (h' : i < d.2.1.length), DirR w g d' ds[i].2 ∧ flatS g d' = flatS f d.2.1[i].2 ∧ (bytD f d.2.1[i].2 → bytD g d') ∧ (smallD f d.2.1[i].2 → smallD g d') ∧ (dataD f d.2.1[i].2 → dataD g d') := fun i => by
      by_cases hi : i < ds.length
      · obtain ⟨d', h1, h2⟩ := ih f g (by omega) (d.2.1[i]'(by omega)).2 ds[i].2 (hsub i hi (by omega)).2 (hn _ (List.getElem_mem _))
        exact ⟨d', fun _ _ => ⟨h1, h2⟩⟩
      · exact ⟨dirZ g, fun h => absurd h hi⟩
    obtain ⟨q, hq⟩ := Classical.axiomOfChoice hex; refine ⟨(d.1, (List.range d.2.1.length).map (fun i => ((d.2.1.getD i (0, dirZ f)).1, q i)), d.2.2), ⟨ta, tn, tc, zs, sa, sn, sc, ds, ba, bn, bc, hv, htg, hdt, hsl, by simpa using hdl, fun i hi hi' => ?_, hbl⟩, ?_, fun hb => ?_, fun hb => ?_, fun hb => ?_⟩
    · have h2 : i < d.2.1.length := by omega
      simp only [List.getElem_map, List.getElem_range]; rw [getD_el h2]; exact ⟨(hsub i hi h2).1, (hq i hi h2).1⟩
    · refine (flatS_succ g _).trans (Eq.trans ?_ (flatS_succ f d).symm)
      simp only [List.length_map, List.length_range]
      congr 1
      rw [List.flatMap_map]; have e := range_map_getD id (0, dirZ f) d.2.1; rw [List.map_id] at e
      conv => rhs; rw [← e, List.flatMap_map]
      refine flatMap_sameW _ fun i hi => ?_; have h2 : i < d.2.1.length := List.mem_range.1 hi; have := (hq i (by omega) h2).2.1; simp only [id]; rw [getD_el h2]; exact this
    · obtain ⟨b1, b2, b3⟩ := hb
      refine ⟨b1, fun s hs => ?_, b3⟩; obtain ⟨i, hi, rfl⟩ := List.mem_map.1 hs; have h2 : i < d.2.1.length := List.mem_range.1 hi; exact (hq i (by omega) h2).2.2.1 (b2 _ (List.getElem_mem h2))
    · obtain ⟨b1, b2, b3, b4⟩ := hb
      refine ⟨b1, b2, by simpa using b3, fun s hs => ?_⟩; obtain ⟨i, hi, rfl⟩ := List.mem_map.1 hs; have h2 : i < d.2.1.length := List.mem_range.1 hi; exact (hq i (by omega) h2).2.2.2.1 (b4 _ (List.getElem_mem h2))
    · obtain ⟨b1, b2⟩ := hb
      refine ⟨b1, fun s hs => ?_⟩; obtain ⟨i, hi, rfl⟩ := List.mem_map.1 hs; have h2 : i < d.2.1.length := List.mem_range.1 hi; exact (hq i (by omega) h2).2.2.2.2 (b2 _ (List.getElem_mem h2))
/-- a tree that is gone through, at the walk's depth -/
theorem cut_tree {w : World} {f : Nat} {sa : Option Addr} {sn sc : Nat} {ds : List (DirT f)} (h : DirsR f w sa sn sc ds) (hb : ∀ d ∈ ds, bytD f d) (hk : okHw f ds) : ∃ us : List (DirT 16), DirsR 16 w sa sn sc us ∧ (∀ d ∈ us, bytD 16 d) ∧ (∀ d ∈ us, smallD 16 d) ∧ (∀ d ∈ us, dataD 16 d) ∧ us.length ≤ 6 ∧ (flatT 16 us).length ≤ 40 := by
  obtain ⟨dzs, h1, h2, h3⟩ := h; obtain ⟨k1, k2, k3⟩ := hk
  have hex : ∀ i, ∃ d' : DirT 16, ∀ (h : i < dzs.length) (h' : i < ds.length), DirR w 16 d' dzs[i] ∧ flatS 16 d' = flatS f ds[i] ∧ (bytD f ds[i] → bytD 16 d') ∧ (smallD f ds[i] → smallD 16 d') ∧ (dataD f ds[i] → dataD 16 d') := fun i => by
    by_cases hi : i < dzs.length
    · obtain ⟨d', e1, e2⟩ := cut_dir 8 f 16 (by omega) (ds[i]'(by omega)) dzs[i] (h3 i hi (by omega)) (k1 _ (List.getElem_mem _)).2
      exact ⟨d', fun _ _ => ⟨e1, e2⟩⟩
    · exact ⟨dirZ 16, fun h => absurd h hi⟩
  obtain ⟨q, hq⟩ := Classical.axiomOfChoice hex
  have hm : ∀ d ∈ (List.range ds.length).map q, ∃ i, i < ds.length ∧ q i = d := fun d hd => by
    obtain ⟨i, hi, rfl⟩ := List.mem_map.1 hd; exact ⟨i, List.mem_range.1 hi, rfl⟩
  refine ⟨(List.range ds.length).map q, ⟨dzs, by simpa using h1, h2, fun i hi hi' => ?_⟩, fun d hd => ?_, fun d hd => ?_, fun d hd => ?_, by simpa using k2, ?_⟩
  · simp only [List.getElem_map, List.getElem_range]
    exact (hq i hi (by omega)).1
  · obtain ⟨i, hi, rfl⟩ := hm d hd
    exact (hq i (by omega) hi).2.2.1 (hb _ (List.getElem_mem hi))
  · obtain ⟨i, hi, rfl⟩ := hm d hd
    exact (hq i (by omega) hi).2.2.2.1 (k1 _ (List.getElem_mem hi)).1.1
  · obtain ⟨i, hi, rfl⟩ := hm d hd
    exact (hq i (by omega) hi).2.2.2.2 (k1 _ (List.getElem_mem hi)).1.2.1
  · have : flatT 16 ((List.range ds.length).map q) = flatT f ds := by
      unfold flatT; rw [List.flatMap_map]; have e := range_map_getD id (dirZ f) ds; rw [List.map_id] at e
      conv => rhs; rw [← e, List.flatMap_map]
      refine flatMap_sameW _ fun i hi => ?_; have hi := List.mem_range.1 hi; have := (hq i (by omega) hi).2.1; simp only [id]; rw [getD_el hi]; exact this
    rw [this]; exact k3
set_option maxRecDepth 20000 in
set_option maxHeartbeats 4000000 in
theorem huge_anyW (f : Nat) (o : Int) (sa : Option Addr) (sn sc : Nat) (ds : List (DirT f)) (w : World) (h : DirsR f w sa sn sc ds) :
    Calls Tryz.prog 29 #[.agg #[.int .i64 o, .slice sa sn sc]] w fun e w' => ∃ b, e = .returned (.bool b) ∧ Below w.heap.size w w' ∧ (b = false → okHw f ds) := by
  obtain ⟨dvs, hdl, hsl, hsub⟩ := h; have hsn : ds.length = sn := by rw [← hdl]; exact hsl.flen dvC_len (by decide)
  have hsmax := hsl.max; have hsle := hsl.le; have hb1 := (Below.refl w.heap.size w).alloc (Nat.le_refl _) (.cells #[.int .i64 o, .slice sa sn sc] 24); have bk := Blk.new w 24 #[.int .i64 o, .slice sa sn sc]; obtain ⟨W1, hW1⟩ : ∃ W1, w.alloc (.cells #[.int .i64 o, .slice sa sn sc] 24) = W1 := ⟨_, rfl⟩; rw [hW1] at hb1 bk; have hsl' := Lib.hid hsl; have hsub' := Lib.hid hsub; have hb1' := Lib.hid hb1; have bk' := Lib.hid bk; have hsn' := Lib.hid hsn; have hW1' := Lib.hid hW1; clear hsl hsub hb1 bk hsn hW1
  go_enter Tryz.func29, Tryz.ntmps29
  go_wp2_with fail
  rw [hW1'.out]
  go_loopw [3] (fun iv wr => ∃ i : Nat, i ≤ sn ∧ iv = .int .i64 i ∧ Hid (∀ k (h : k < ds.length), k < i → okVw f 8 ds[k]) ∧ Hid (Below W1.heap.size W1 wr)) (fun iv _ => sn - (intOf iv).toNat)
  case atStart => exact ⟨0, by omega, rfl, Lib.hid (fun k _ h => by omega), Lib.hid (Below.refl _ _)⟩
  case round =>
    obtain ⟨i, hi, rfl, hall, hbr⟩ := hrel; have bkr := bk'.out.late hbr.out; have q1 : wr.cell? ⟨w.heap.size, 1, none⟩ = some (.slice sa sn sc) := bkr.cell rfl; have hbw := hb1'.out.trans (hbr.out.mono hb1'.out.size)
    by_cases hlt : i < sn
    · have hil : (i : Int) < (sn : Int) := by omega
      have hw5 : IntKind.i64.wrap ((i : Int) + 1) = i + 1 := by rw [IntKind.wrap_i64]; omega
      have hid : i < ds.length := by rw [hsn'.out]; exact hlt
      have hids : i < dvs.length := by rw [hdl]; exact hid
      obtain ⟨b, o', rfl, hblt, fe⟩ := (hsl'.out.mono hbw).elem dvC_len (by decide) (.slice none 0 0, .slice none 0 0, .slice none 0 0) hlt; rw [getD_el hids] at fe; have hq2 := hsub'.out i hids hid; obtain ⟨ua, un, uc, pa, pn, pc, ra, rn, rc, hv⟩ := hq2.v; have g0 := fe 0 _ rfl; have g1 := fe 1 _ rfl; have g2 := fe 2 _ rfl; clear fe; rw [hv] at hq2 g0 g1 g2; simp only [Nat.add_zero] at g0 g1 g2; have hI := vast_anyW 8 (by omega) f w wr ds[i] (.slice ua un uc, .slice pa pn pc, .slice ra rn rc) hq2 hbw; simp only at hI; have hq2' := Lib.hid hq2; have hv' := Lib.hid hv; have hI' := Lib.hid hI; have hbw' := Lib.hid hbw; have bkr' := Lib.hid bkr; clear hq2 hv hI hbw bkr
      go_wp2_with fail
      refine hI'.out.mono ?_; rintro e w3 ⟨bv, rfl, hb3, hpost⟩; have hbw3 := hbw'.out.trans (hb3.mono hbw'.out.size); have hbr3 := hbr.out.trans (hb3.mono hbr.out.size); clear g0 g1 g2 q1
      cases bv with
      | true =>
        have hbw3' := Lib.hid hbw3; have hbr3' := Lib.hid hbr3; have hb3' := Lib.hid hb3; have hpost' := Lib.hid hpost; clear hbw3 hbr3 hb3 hpost
        go_wp2_with fail
        go_ret
        exact ⟨_, rfl, hbw3'.out, fun h => by cases h⟩
      | false =>
        have hp := hpost rfl
        have hall3 : ∀ k (h : k < ds.length), k < i + 1 → okVw f 8 ds[k] := fun k h hk => by
          by_cases hij : k = i
          · subst hij; exact hp
          · exact hall.out k h (by omega)
        clear hpost; have hbw3' := Lib.hid hbw3; have hbr3' := Lib.hid hbr3; have hb3' := Lib.hid hb3; have hp' := Lib.hid hp; have hall3' := Lib.hid hall3; clear hbw3 hbr3 hb3 hp hall3
        go_wp2_with fail
        go_roundw
        case rel => exact ⟨i + 1, by omega, by go_num, hall3', hbr3'⟩
        case measure => simp [intOf]; omega
    · obtain rfl : i = sn := by omega
      have hall2 : ∀ d ∈ ds, okVw f 8 d := fun d hd => by
        obtain ⟨k, hk, rfl⟩ := List.getElem_of_mem hd; exact hall.out k hk (by rw [← hsn'.out]; exact hk)
      by_cases h6 : 6 < i
      · have d1 : decide ((6 : Int) < (i : Int)) = true := by simp; omega
        have hbw' := Lib.hid hbw; have hall2' := Lib.hid hall2; clear hbw hall2
        go_wp2_with fail
        go_ret
        exact ⟨_, rfl, hbw'.out, fun h => by cases h⟩
      · have d1 : decide ((6 : Int) < (i : Int)) = false := by simp; omega
        have q0 : wr.cell? ⟨w.heap.size, 0, none⟩ = some (.int .i64 o) := bkr.cell rfl; have hcap := flatT_cap f (capV 8) ds (fun d hd => (hall2 d hd).1.2.2); have hcap2 : ds.length * capV 8 ≤ 6 * capV 8 := Nat.mul_le_mul_right _ (by rw [hsn'.out]; omega); rw [cap8] at hcap hcap2; have hDr : DirsR f wr sa i sc ds := DirsR.mono (w := w) ⟨dvs, hdl, hsl'.out, hsub'.out⟩ hbw; have hDi := rdirs2_any f o sa i sc ds wr hDr (by omega) (fun d hd => by have := (hall2 d hd).1.2.2; rw [cap8] at this; omega); obtain ⟨N, hN⟩ : ∃ N, (flatT f ds).length = N := ⟨_, rfl⟩; have hNl : N ≤ 3000000 := by omega
        rw [hN] at hDi; clear hcap hcap2; have hbw' := Lib.hid hbw; have hall2' := Lib.hid hall2; have hDr' := Lib.hid hDr; have hDi' := Lib.hid hDi; have hN' := Lib.hid hN; clear hbw hall2 hDr hDi hN
        go_wp2_with fail
        refine hDi'.out.mono ?_; rintro e w4 ⟨a4, c4, vs4, rfl, ho4, hf4, hb4⟩; have hbw4 := hbw'.out.trans (hb4.mono hbw'.out.size); have ho4' := Lib.hid ho4; have hf4' := Lib.hid hf4; have hb4' := Lib.hid hb4; have hbw4' := Lib.hid hbw4; clear ho4 hf4 hb4 hbw4; clear q0 q1
        by_cases h40 : 40 < N
        · have d2 : decide ((40 : Int) < (N : Int)) = true := by simp; omega
          go_wp2_with fail
          go_ret
          exact ⟨_, rfl, hbw4'.out, fun h => by cases h⟩
        · have d2 : decide ((40 : Int) < (N : Int)) = false := by simp; omega
          go_wp2_with fail
          go_ret
          exact ⟨_, rfl, hbw4'.out, fun _ => ⟨hall2'.out, by rw [hsn'.out]; omega, by rw [hN'.out]; omega⟩⟩
end Go.Proofs.YtilennmeiaehnaaGreat

namespace Go.Proofs.YtilennmeiaehnaaGreat
open Go.RowKit Tt
set_option linter.unusedVariables false
set_option linter.unusedSimpArgs false

theorem byt_apP : ∀ (ps : List Pt) (b : List Int), Byt b → (∀ p ∈ ps, Byt p.2) → Byt (apP ps b)
  | [], _, h, _ => h
  | p :: ps, b, h, hp => by
    rw [apP_cons]; refine byt_apP ps _ ?_ fun q hq => hp q (List.mem_cons_of_mem _ hq); have hpp := hp p (List.mem_cons_self ..); unfold splice; intro x hx
    rcases List.mem_append.1 hx with hx | hx
    · exact h x (List.mem_of_mem_take hx)
    · rcases List.mem_append.1 hx with hx | hx
      · exact hpp x hx
      · exact h x (List.mem_of_mem_drop hx)
theorem byt_entW (x : Ent) (o : Int) : Byt (entW x o) := by
  unfold entW; exact (((putS_byt _ _ _).append (putS_byt _ _ _)).append (putS_byt _ _ _)).append (putS_byt _ _ _)
theorem byt_dirQ {L : List Shp} {l : List Spt} {o : Int} : ∀ (f : Nat) (d : DirT f) (no i : Int), bytD f d → ∀ p ∈ dirQ L l o f d no i, Byt p.2
  | 0, _, _, _, _, p, hp => by cases hp
  | f + 1, d, no, i, hb, p, hp => by
    rw [dirQ_succ, putP_eq] at hp
    rcases List.mem_append.1 hp with hp | hp
    · obtain ⟨j, hj, hp⟩ := subP_mem hp
      exact byt_dirQ f _ _ _ (hb.2.1 _ (by rw [getD_el hj]; exact List.getElem_mem hj)) p hp
    rcases List.mem_append.1 hp with hp | hp
    · rcases List.mem_append.1 hp with hp | hp
      · obtain ⟨x, hx, hp⟩ := List.mem_flatMap.1 hp
        unfold patV at hp
        split at hp
        · cases hp
        · obtain rfl : p = _ := by simpa using hp
          exact byt_bytesV (hb.1 x hx)
      · unfold blobP at hp
        split at hp
        · obtain rfl : p = _ := by simpa using hp
          exact hb.2.2
        · cases hp
    · unfold headQ at hp
      rcases List.mem_cons.1 hp with rfl | hp
      · exact putS_byt _ _ _
      · obtain ⟨x, _, rfl⟩ := List.mem_map.1 hp
        exact byt_entW x o
theorem byt_treeW {f : Nat} {o : Int} {ds : List (DirT f)} {L : List Shp} (h : checkS f o ds L = 0) (hb : ∀ d ∈ ds, bytD f d) : Byt (treeW f o ds L) := by
  rw [treeW_Q h hb]; refine byt_apP _ _ (fun x hx => by rw [List.eq_of_mem_replicate hx]; decide) fun p hp => ?_
  rcases List.mem_cons.1 hp with rfl | hp
  · show Byt (signB o)
    unfold signB
    split <;> · intro x hx; simp at hx; omega
  rcases List.mem_cons.1 hp with rfl | hp
  · exact putS_byt _ _ _
  rcases List.mem_cons.1 hp with rfl | hp
  · exact putS_byt _ _ _
  obtain ⟨k, hk, hp⟩ := List.mem_flatMap.1 hp; have hk := List.mem_range.1 hk
  rcases List.mem_append.1 hp with hp | hp
  · exact byt_dirQ f _ _ _ (hb _ (by rw [getD_el hk]; exact List.getElem_mem hk)) p hp
  · unfold nextQ at hp
    split at hp
    · obtain rfl : p = _ := by simpa using hp
      exact putS_byt _ _ _
    · cases hp
def sumI (is : List Itm) : Int := (is.map fun x => x.2.2.2 + 1).sum
theorem sumI_app (a b : List Itm) : sumI (a ++ b) = sumI a + sumI b := by unfold sumI; rw [List.map_append, List.sum_append]
theorem endP_sum : ∀ (is : List Itm) (e : Int), 0 ≤ e → (∀ x ∈ is, 0 ≤ x.2.2.2) → endP e is ≤ e + sumI is
  | [], e, _, _ => by simp [endP, sumI]
  | x :: is, e, h, hx => by
    have h1 := evenS_le h; have h2 := hx x (List.mem_cons_self ..); have := endP_sum is (evenS e + x.2.2.2) (by omega) fun y hy => hx y (List.mem_cons_of_mem _ hy); have e1 : sumI (x :: is) = x.2.2.2 + 1 + sumI is := rfl
    show endP (evenS e + x.2.2.2) is ≤ _
    omega
theorem sumI_le {c : Int} : ∀ (is : List Itm), (∀ x ∈ is, x.2.2.2 ≤ c) → 0 ≤ c → sumI is ≤ is.length * (c + 1)
  | [], _, _ => by simp [sumI]
  | x :: is, h, hc => by
    have h1 := h x (List.mem_cons_self ..); have h2 := sumI_le is (fun y hy => h y (List.mem_cons_of_mem _ hy)) hc; have e1 : sumI (x :: is) = x.2.2.2 + 1 + sumI is := rfl; rw [e1, List.length_cons, show ((is.length + 1 : Nat) : Int) = is.length + 1 by omega, Int.add_mul]
    omega
theorem sum_subs {f : Nat} (ih : ∀ (d : DirT f) (no : Int), smallD f d → dataD f d → (∀ x ∈ flatS f d, x.1.all okT = true) → sumI (itmD f d no) ≤ (flatS f d).length * 40000) : ∀ (ss : List (Int × DirT f)) (no : Int), (∀ s ∈ ss, smallD f s.2) → (∀ s ∈ ss, dataD f s.2) → (∀ s ∈ ss, ∀ x ∈ flatS f s.2, x.1.all okT = true) → sumI (itmSs (itmD f) ss no) ≤ (flats f ss).length * 40000
  | [], _, _, _, _ => by simp [itmSs, sumI, flats]
  | s :: ss, no, h1, h2, h3 => by
    have a := ih s.2 no (h1 s (List.mem_cons_self ..)) (h2 s (List.mem_cons_self ..)) (h3 s (List.mem_cons_self ..)); have b := sum_subs ih ss (no + (flatS f s.2).length) (fun x hx => h1 x (List.mem_cons_of_mem _ hx)) (fun x hx => h2 x (List.mem_cons_of_mem _ hx)) (fun x hx => h3 x (List.mem_cons_of_mem _ hx)); have e1 : itmSs (itmD f) (s :: ss) no = itmD f s.2 no ++ itmSs (itmD f) ss (no + (flatS f s.2).length) := rfl; have e2 : (flats f (s :: ss)).length = (flatS f s.2).length + (flats f ss).length := by unfold flats; rw [List.flatMap_cons, List.length_append]
    rw [e1, sumI_app, e2]
    omega
theorem sum_dir : ∀ (f : Nat) (d : DirT f) (no : Int), smallD f d → dataD f d → (∀ x ∈ flatS f d, x.1.all okT = true) → sumI (itmD f d no) ≤ (flatS f d).length * 40000
  | 0, _, _, _, _, _ => by simp [itmD, sumI]; omega
  | f + 1, d, no, hs, hd, hk => by
    obtain ⟨h1, h2, h3, h4⟩ := hs; obtain ⟨g1, g2⟩ := hd; have hfl : (flatS (f + 1) d).length = (flats f d.2.1).length + 1 := by rw [flatS_succ]; rfl
    have hkd := hk (d.1, d.2.1.length, d.2.2) (by rw [flatS_succ]; exact List.mem_cons_self ..); have hks : ∀ s ∈ d.2.1, ∀ x ∈ flatS f s.2, x.1.all okT = true := fun s hs x hx => hk x (by rw [flatS_succ]; exact List.mem_cons_of_mem _ (List.mem_flatMap.2 ⟨s, hs, hx⟩)); have hS := sum_subs (sum_dir f) d.2.1 (no + 1) h4 g2 hks
    have hV : sumI (itmV no d.1) ≤ 60 * 601 := by
      have hl : (itmV no d.1).length ≤ 60 := by
        unfold itmV; rw [List.length_map]; exact Nat.le_trans (List.length_filter_le _ _) h1
      have := sumI_le (c := 600) (itmV no d.1) (fun x hx => by
        obtain ⟨t, ht, rfl⟩ := List.mem_map.1 hx; have htm := (List.mem_filter.1 ht).1; have ho := List.all_eq_true.1 hkd t htm; have hd := g1 t htm
        show outV t ≤ 600
        unfold outV
        by_cases hz : outS t.2.1 t.2.2.1 = 0
        · omega
        · have h5 := outS_len (o := 1) ho (.inl rfl) hz
          have h6 := bytesV_len (o := 1) ho (.inl rfl)
          omega) (by decide)
      omega
    have hB : sumI (itmB no d.2.2) ≤ 601 := by
      unfold itmB
      split
      · show (d.2.2.length : Int) + 1 + 0 ≤ 601
        omega
      · show (0 : Int) ≤ 601
        decide
    have hen := entN_le (b := d.2.2.length) h1 h3; rw [itmD_succ]; have e1 : sumI ((2, no, 0, 6 + 12 * ((entN d.1.length d.2.1.length d.2.2.length : Nat) : Int)) :: (itmV no d.1 ++ (itmSs (itmD f) d.2.1 (no + 1) ++ itmB no d.2.2))) = 6 + 12 * ((entN d.1.length d.2.1.length d.2.2.length : Nat) : Int) + 1 + sumI (itmV no d.1 ++ (itmSs (itmD f) d.2.1 (no + 1) ++ itmB no d.2.2)) := rfl; rw [e1, sumI_app, sumI_app, hfl]
    omega
/-- a tree that is gone through is not long -/
theorem long_small {f : Nat} {ds : List (DirT f)} (hs : ∀ d ∈ ds, smallD f d) (hd : ∀ d ∈ ds, dataD f d) (hk : okAll f ds = true) : endS (layT f ds) ≤ 9 + (flatT f ds).length * 40000 := by
  rw [(layT_eq f ds).2]; have h1 := endP_sum (itmT f ds) 0 (Int.le_refl _) (itmT_nn f ds)
  have hkk : ∀ x ∈ flatT f ds, x.1.all okT = true := fun x hx => by
    have := List.all_eq_true.1 hk x hx; unfold okF at this; simp only [Bool.and_eq_true] at this; exact this.2
  have h2 := sum_subs (sum_dir f) (prs f ds) 0 (fun s hs2 => by obtain ⟨d, hd2, rfl⟩ := List.mem_map.1 hs2; exact hs d hd2) (fun s hs2 => by obtain ⟨d, hd2, rfl⟩ := List.mem_map.1 hs2; exact hd d hd2) (fun s hs2 x hx => by
    obtain ⟨d, hd2, rfl⟩ := List.mem_map.1 hs2; exact hkk x (List.mem_flatMap.2 ⟨d, hd2, hx⟩))
  rw [flats_prs] at h2; have e1 : sumI (itmT f ds) = 8 + 1 + sumI (itmSs (itmD f) (prs f ds) 0) := rfl
  omega
end Go.Proofs.YtilennmeiaehnaaGreat

namespace Go.Proofs.YtilennmeiaehnaaGreat
open Go.RowKit Tt
set_option linter.unusedVariables false
set_option linter.unusedSimpArgs false

theorem app_zeros_own (w : World) (B : Nat) (a : Option Addr) (n c k : Nat) (b : List Int) (ty : TypeId) (ho : w.ownsRow B 5 1 (.slice a n c) n (ints .u8 b)) (hn : 1 ≤ n) (hnk : n + k ≤ 1000000000) (hB : B ≤ w.heap.size) :
    ∃ a' c' w', (Builtin.append_ #[30, 3] ty #[.slice a n c, .int .i64 (k : Int)]).run Tryz.prog w = .ok (.slice a' (n + k) c') w' ∧ w'.ownsRow B 5 1 (.slice a' (n + k) c') (n + k) (ints .u8 (b ++ List.replicate k 0)) ∧ w.grownBy w' (Value.slice a n c).ownBlock := by
  obtain ⟨i0, hi, hz0, hz1, hz2⟩ := info_parts infoB; have hsl := (Sl.of_own ho).1; have hbl : b.length = n := hsl.ilen
  rcases ho.2 with ⟨hv, h0⟩ | ⟨g, cap, cur, hv, hBg, hg, hnc, hcm, hcs, htk⟩
  · omega
  injection hv with h1 h2 h3; subst h1 h3; rw [Nat.mul_one] at hcs htk; have hlen : (ints .u8 (b ++ List.replicate k 0)).length = (n + k) * 1 := by rw [ints_len, List.length_append, List.length_replicate, hbl, Nat.mul_one]
  have hw : IntKind.i64.wrap (k : Int) = k := by rw [IntKind.wrap_i64]; omega
  have hneg : ¬ ((k : Int) < 0) := by omega
  have hw0 : IntKind.i64.wrap 0 = 0 := by decide
  have h48k : ¬ (281474976710656 < (k : Int)) := by omega
  have h48i : ¬ (281474976710656 < (k : Int) * (i0.bytes : Int)) := by rw [hz2]; omega
  by_cases hroom : n + k ≤ c
  · have hst := run_storeCells_at Tryz.prog g n 5 (ints .u8 (List.replicate k 0)) 0 cur w hg (by rw [ints_len, List.length_replicate]; omega) ints_one
    simp only [Nat.add_zero] at hst
    have hr : (Builtin.append_ #[30, 3] ty #[.slice (some ⟨g, 0, none⟩) n c, .int .i64 (k : Int)]).run Tryz.prog w = .ok (.slice (some ⟨g, 0, none⟩) (n + k) c) (w.setRow g (cur.toList.take n ++ ints .u8 (List.replicate k 0) ++ cur.toList.drop (n + k)).toArray) := by
      by_cases hk : k = 0
      · subst hk
        simp only [ints, List.replicate_zero, List.map_nil] at hst ⊢
        simp [Builtin.append_, run_underlying Tryz.underlying30, run_underlying Tryz.underlying3, sizeOf, typeInfo, zeroValue, hi, hz0, hz1, hz2, asInt, asIntOf, hw, hw0, hneg, h48i, hnc, Addr.add_lit, hst]
      · have hns : ¬ (k * i0.size = 0) := by rw [hz1]; omega
        have hzl := zeroB_list k; have hzc : Builtin.zeroCells (Value.int .u8 0).cells k = (ints .u8 (List.replicate k 0)).toArray := by rw [← hzl]; rfl
        simp [Builtin.append_, run_underlying Tryz.underlying30, run_underlying Tryz.underlying3, sizeOf, typeInfo, zeroValue, hi, hz0, hz1, hz2, asInt, asIntOf, hw, hneg, h48i, h48k, hk, hroom, Addr.add_lit, hzc, hst]
        simp [ints_len]
    refine ⟨_, _, _, hr, ⟨hlen, .inr ⟨g, c, _, rfl, hBg, setRow_heap w g cur _ 5 _ hg, hroom, hcm, ?_, ?_⟩⟩, ⟨rfl, rfl, rfl, by simp [World.setRow], fun q _ hq => setRow_other w g q _ (fun e => hq (by simp [Value.ownBlock, e]))⟩⟩
    · simp [ints_len]; omega
    · rw [htk, ← ints_append, Nat.mul_one]
      have : (ints .u8 (b ++ List.replicate k 0)).length = n + k := by rw [hlen, Nat.mul_one]
      rw [← this]; exact List.take_left
  · have hold : (Builtin.firstCells i0.size n (.slice (some ⟨g, 0, none⟩) n c)).run Tryz.prog w.drew = .ok (ints .u8 b).toArray w.drew := by
      refine run_firstCells_some (P := Tryz.prog) (w := w.drew) i0.size n ⟨g, 0, none⟩ n c (ints .u8 b) (by rw [ints_len, hbl, hz1, Nat.mul_one]) (fun j v hv => ?_); have := ho.cells (g := g) rfl j v hv; exact this
    have hr := Lib.run_append_grow_zeros (P := Tryz.prog) w 30 3 ty 5 i0 (.int .u8 0) .i64 .i64 Tryz.underlying30 Tryz.underlying3 hi hz0 (some ⟨g, 0, none⟩) n c (ints .u8 b) hold k (by omega) (by omega) (by omega) (by omega) (by rw [hz2]; omega) (growslice_fits (by omega) (by rw [hz2]; omega)); have hge := grownCap_ge w (n + k) c 5; have hcm2 := grownCap_le_maxLen w (n + k) c 5 (by unfold maxLen; omega); refine ⟨_, _, _, hr, ⟨hlen, .inr ⟨w.heap.size, _, _, rfl, hB, heap_alloc_new w.drew _, hge, hcm2, ?_, ?_⟩⟩, ⟨rfl, rfl, rfl, by simp, fun q hq _ => heap_alloc_old w.drew _ hq⟩⟩
    · simp [size_zeroCells, ints_len, hbl, Value.cells]; omega
    · have e1 : (Value.int .u8 0).cells = #[.int .u8 0] := rfl
      rw [e1]; simp only [Array.toList_append]; rw [zeroB_list k, ← ints_append, ← hlen]; exact List.take_left
end Go.Proofs.YtilennmeiaehnaaGreat
