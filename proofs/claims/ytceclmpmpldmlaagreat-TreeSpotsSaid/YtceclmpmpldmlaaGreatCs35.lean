/- Chapter 21: the law's own functions: many, vast, huge. | Chapters 21, 22: a tree's bytes are bytes, and not too many. Plain. | Chapter 21: the law TreeSpots, plain. | Chapter 21: a directory is put among bytes: the document. -/
import Derived.Test.YtceclmpmpldmlaaGreatCs34
import Derived.Test.YtceclmpmpldmlaaGreatCs31
import Derived.Test.YtceclmpmpldmlaaGreatCs29
import Derived.Test.YtceclmpmpldmlaaGreatCs19
import Derived.Test.YtceclmpmpldmlaaGreatCs11
import Derived.Test.YtceclmpmpldmlaaGreatCs27
import Derived.Test.YtceclmpmpldmlaaGreatCs14
import Derived.Test.YtceclmpmpldmlaaGreatCs16
import Derived.Test.YtceclmpmpldmlaaGreatCs06
import Derived.Test.YtceclmpmpldmlaaGreatCs26
namespace Go.Proofs.YtceclmpmpldmlaaGreat
open Go.RowKit Tt
set_option linter.unusedVariables false
set_option linter.unusedSimpArgs false

def capV : Nat → Nat
  | 0 => 0
  | n + 1 => 1 + 6 * capV n
theorem flats_le (f c : Nat) : ∀ (ss : List (Int × DirT f)), (∀ s ∈ ss, (flatS f s.2).length ≤ c) → (flats f ss).length ≤ ss.length * c
  | [], _ => by simp [flats]
  | s :: ss, h => by
    have h1 := h s (List.mem_cons_self ..); have h2 := flats_le f c ss (fun x hx => h x (List.mem_cons_of_mem _ hx)); have e : (flats f (s :: ss)).length = (flatS f s.2).length + (flats f ss).length := by simp [flats]
    rw [e, List.length_cons, Nat.add_mul, Nat.one_mul]
    omega
/-- no more than is gone through -/
def okVt (f n : Nat) (d : DirT f) : Prop := smallD f d ∧ dataD f d ∧ (flatS f d).length ≤ capV n
def PVast (n : Nat) : Prop := ∀ (f : Nat) (w0 w : World) (d : DirT f) (dv : Dz), DirR w0 f d dv → Below w0.heap.size w0 w →
  Calls Tryz.prog 8 #[.agg #[dv.1, dv.2.1, dv.2.2], .int .i64 n] w fun e w' => ∃ b, e = .returned (.bool b) ∧ Below w.heap.size w w' ∧ (b = false → okVt f n d)
set_option maxRecDepth 20000 in
set_option maxHeartbeats 4000000 in
theorem vast_zero : PVast 0 := by
  intro f w0 w d dv hd hb0; obtain ⟨ta, tn, tc, sa, sn, sc, ba, bn, bc, rfl⟩ := hd.v; have hb1 := (Below.refl w.heap.size w).alloc (Nat.le_refl _) (.cells #[.slice ta tn tc, .slice sa sn sc, .slice ba bn bc] 26); have hd' := Lib.hid hd; have hb0' := Lib.hid hb0; clear hd hb0
  go_enter Tryz.func8, Tryz.ntmps8
  have hb1' := Lib.hid hb1; clear hb1
  go_wp2_with fail
  go_ret
  exact ⟨_, rfl, hb1'.out, fun h => by cases h⟩
set_option maxRecDepth 20000 in
set_option maxHeartbeats 8000000 in
theorem vast_step (n : Nat) (hn : n < 100) (ih : PVast n) : PVast (n + 1) := by
  intro f w0 w d dv hd hb0
  cases f with
  | zero => exact hd.elim
  | succ f =>
  obtain ⟨ta, tn, tc, zs, sa, sn, sc, ds, ba, bn, bc, rfl, htg, hdt, hsl, hdl, hsub, hbl⟩ := hd; have htn : d.1.length = tn := by rw [hdt, List.length_map]; exact htg.len
  have hsn : d.2.1.length = sn := by rw [← hdl]; exact hsl.flen sbC_len (by decide)
  have hbn : d.2.2.length = bn := hbl.ilen; have htm : tn ≤ 9223372036854775807 := Nat.le_trans htg.row.le htg.row.max; have hsm : sn ≤ 9223372036854775807 := Nat.le_trans hsl.le hsl.max; have hfl : (flatS (f + 1) d).length = (flats f d.2.1).length + 1 := by rw [flatS_succ]; rfl
  have hb1 := (Below.refl w.heap.size w).alloc (Nat.le_refl _) (.cells #[.slice ta tn tc, .slice sa sn sc, .slice ba bn bc] 26); have bk := Blk.new w 26 #[.slice ta tn tc, .slice sa sn sc, .slice ba bn bc]; obtain ⟨W1, hW1⟩ : ∃ W1, w.alloc (.cells #[.slice ta tn tc, .slice sa sn sc, .slice ba bn bc] 26) = W1 := ⟨_, rfl⟩; rw [hW1] at hb1 bk; have c0 : W1.cell? ⟨w.heap.size, 0, none⟩ = some (.slice ta tn tc) := bk.cell rfl; have c1 : W1.cell? ⟨w.heap.size, 1, none⟩ = some (.slice sa sn sc) := bk.cell rfl; have c2 : W1.cell? ⟨w.heap.size, 2, none⟩ = some (.slice ba bn bc) := bk.cell rfl; have e1 : (((n + 1 : Nat) : Int) == 0) = false := by simp; omega
  have hw0 : IntKind.i64.wrap (((n + 1 : Nat) : Int) - 1) = n := by rw [IntKind.wrap_i64]; omega
  obtain ⟨nn, hnn⟩ : ∃ x : Int, ((n + 1 : Nat) : Int) = x := ⟨_, rfl⟩; rw [hnn] at e1 hw0 ⊢; have hb0' := Lib.hid hb0; have htg' := Lib.hid htg; have hdt' := Lib.hid hdt; have hsl' := Lib.hid hsl; have hdl' := Lib.hid hdl; have hsub' := Lib.hid hsub; have hbl' := Lib.hid hbl; have hfl' := Lib.hid hfl; have bk' := Lib.hid bk; have hW1' := Lib.hid hW1; have htn' := Lib.hid htn; have hsn' := Lib.hid hsn; have hbn' := Lib.hid hbn; have hnn' := Lib.hid hnn; have ih' := Lib.hid ih; clear hb0 htg hdt hsl hdl hsub hbl hfl bk hW1 htn hsn hbn hnn ih
  by_cases q1 : 60 < tn
  · have d1 : decide ((60 : Int) < (tn : Int)) = true := by simp; omega
    go_enter Tryz.func8, Tryz.ntmps8
    have hb1' := Lib.hid hb1; clear hb1
    go_wp2_with fail
    rw [hW1'.out]
    go_wp2_with fail
    go_ret
    exact ⟨_, rfl, hb1'.out, fun h => by cases h⟩
  have d1 : decide ((60 : Int) < (tn : Int)) = false := by simp; omega
  by_cases q2 : 600 < bn
  · have d2 : decide ((600 : Int) < (bn : Int)) = true := by simp; omega
    go_enter Tryz.func8, Tryz.ntmps8
    have hb1' := Lib.hid hb1; clear hb1
    go_wp2_with fail
    rw [hW1'.out]
    go_wp2_with fail
    go_ret
    exact ⟨_, rfl, hb1'.out, fun h => by cases h⟩
  have d2 : decide ((600 : Int) < (bn : Int)) = false := by simp; omega
  by_cases q3 : 6 < sn
  · have d3 : decide ((6 : Int) < (sn : Int)) = true := by simp; omega
    go_enter Tryz.func8, Tryz.ntmps8
    have hb1' := Lib.hid hb1; clear hb1
    go_wp2_with fail
    rw [hW1'.out]
    go_wp2_with fail
    go_ret
    exact ⟨_, rfl, hb1'.out, fun h => by cases h⟩
  have d3 : decide ((6 : Int) < (sn : Int)) = false := by simp; omega
  go_enter Tryz.func8, Tryz.ntmps8
  have hb1' := Lib.hid hb1; clear hb1
  go_wp2_with fail
  rw [hW1'.out]
  go_wp2_with fail
  clear d1 d2 d3 c1 c2
  go_loopw [5] (fun iv wr => ∃ k : Nat, k ≤ tn ∧ iv = .int .i64 k ∧ Hid (∀ i (h : i < d.1.length), i < k → d.1[i].2.2.2.length ≤ 600) ∧ wr = W1) (fun iv _ => tn - (intOf iv).toNat)
  case atStart => exact ⟨0, by omega, rfl, Lib.hid (fun i _ h => by omega), rfl⟩
  case round =>
    obtain ⟨k, hk, rfl, hall, rfl⟩ := hrel
    by_cases hlt : k < tn
    · have hil : (k : Int) < (tn : Int) := by omega
      have hw1 : IntKind.i64.wrap ((k : Int) + 1) = k + 1 := by rw [IntKind.wrap_i64]; omega
      obtain ⟨b, o, rfl, hblt, f0, f1, f2, f3, hrd⟩ := (htg'.out.mono (hb0'.out.trans (hb1'.out.mono hb0'.out.size))).at hlt; have hkd : k < d.1.length := by rw [htn'.out]; exact hlt
      have hgx : d.1[k] = tagz (zs.getD k tz0) := by
        have h1 : k < zs.length := by rw [htg'.out.len]; exact hlt
        simp only [hdt'.out, List.getElem_map]; rw [getD_el h1]
      obtain ⟨⟨⟨y, t, cn, xa, xn, xc⟩, dd⟩, hzi⟩ : ∃ z, zs.getD k tz0 = z := ⟨_, rfl⟩; rw [hzi] at f0 f1 f2 f3 hrd hgx; simp only [tagz] at f0 f1 f2 f3 hrd hgx; have hxn : dd.length = xn := hrd.ilen; have hgx' := Lib.hid hgx; have hzi' := Lib.hid hzi; have hrd' := Lib.hid hrd; have hxn' := Lib.hid hxn; clear hgx hzi hrd hxn
      by_cases q4 : 600 < xn
      · have d4 : decide ((600 : Int) < (xn : Int)) = true := by simp; omega
        go_wp2_with fail
        go_ret
        exact ⟨_, rfl, hb1'.out, fun h => by cases h⟩
      · have d4 : decide ((600 : Int) < (xn : Int)) = false := by simp; omega
        have hall2 : ∀ i (h : i < d.1.length), i < k + 1 → d.1[i].2.2.2.length ≤ 600 := fun i h hi => by
          by_cases hik : i = k
          · subst hik; rw [hgx'.out]; show dd.length ≤ 600; rw [hxn'.out]; omega
          · exact hall.out i h (by omega)
        have hall2' := Lib.hid hall2; clear hall2
        go_wp2_with fail
        go_roundw
        case rel => exact ⟨k + 1, by omega, by go_num, hall2', by first | rfl | trivial⟩
        case measure => simp [intOf]; omega
    · obtain rfl : k = tn := by omega
      have c1 : wr.cell? ⟨w.heap.size, 1, none⟩ = some (.slice sa sn sc) := bk'.out.cell rfl
      go_wp2_with fail
      clear c1 c0
      go_loopw [6] (fun iv wr2 => ∃ j : Nat, j ≤ sn ∧ iv = .int .i64 j ∧ Hid (∀ i (h : i < d.2.1.length), i < j → okVt f n d.2.1[i].2) ∧ Hid (Below wr.heap.size wr wr2)) (fun iv _ => sn - (intOf iv).toNat)
      case atStart => exact ⟨0, by omega, rfl, Lib.hid (fun i _ h => by omega), Lib.hid (Below.refl _ _)⟩
      case round =>
        obtain ⟨j, hj, rfl, hall2, hbb⟩ := hrel
        rename World => wq
        have bkq := bk'.out.late hbb.out; have c1 : wq.cell? ⟨w.heap.size, 1, none⟩ = some (.slice sa sn sc) := bkq.cell rfl; have hbw := hb1'.out.trans (hbb.out.mono hb1'.out.size)
        by_cases hlt : j < sn
        · have hil : (j : Int) < (sn : Int) := by omega
          have hw1 : IntKind.i64.wrap ((j : Int) + 1) = j + 1 := by rw [IntKind.wrap_i64]; omega
          have hb0q := hb0'.out.trans (hbw.mono hb0'.out.size); have hid : j < d.2.1.length := by rw [hsn'.out]; exact hlt
          have hids : j < ds.length := by rw [hdl'.out]; exact hid
          obtain ⟨xb, xo, rfl, hblt2, fe⟩ := (hsl'.out.mono hb0q).elem sbC_len (by decide) (0, (.slice none 0 0, .slice none 0 0, .slice none 0 0)) hlt; rw [getD_el hids] at fe; obtain ⟨hq1, hq2⟩ := hsub'.out j hids hid; obtain ⟨ua, un, uc, ra, rn, rc, xa, xn, xc, hv⟩ := hq2.v; have g1 := fe 1 _ rfl; have g2 := fe 2 _ rfl; have g3 := fe 3 _ rfl; clear fe; rw [hv] at hq2 g1 g2 g3; simp only at g1 g2 g3; have hI := ih'.out f w0 wq d.2.1[j].2 (.slice ua un uc, .slice ra rn rc, .slice xa xn xc) hq2 hb0q; simp only at hI; have hb0q' := Lib.hid hb0q; have hq1' := Lib.hid hq1; have hq2' := Lib.hid hq2; have hv' := Lib.hid hv; have hI' := Lib.hid hI; have hbw' := Lib.hid hbw; have bkq' := Lib.hid bkq; clear hb0q hq1 hq2 hv hI hbw bkq
          go_wp2_with fail
          refine hI'.out.mono ?_; rintro e w3 ⟨bv, rfl, hb3, hpost⟩; have hbw3 := hbw'.out.trans (hb3.mono hbw'.out.size); have hbb3 := hbb.out.trans (hb3.mono hbb.out.size); clear c1 g1 g2 g3
          cases bv with
          | true =>
            have hbw3' := Lib.hid hbw3; have hbb3' := Lib.hid hbb3; have hb3' := Lib.hid hb3; have hpost' := Lib.hid hpost; clear hbw3 hbb3 hb3 hpost
            go_wp2_with fail
            go_ret
            exact ⟨_, rfl, hbw3'.out, fun h => by cases h⟩
          | false =>
            have hp := hpost rfl
            have hall3 : ∀ i (h : i < d.2.1.length), i < j + 1 → okVt f n d.2.1[i].2 := fun i h hi => by
              by_cases hij : i = j
              · subst hij; exact hp
              · exact hall2.out i h (by omega)
            clear hpost; have hbw3' := Lib.hid hbw3; have hbb3' := Lib.hid hbb3; have hb3' := Lib.hid hb3; have hp' := Lib.hid hp; have hall3' := Lib.hid hall3; clear hbw3 hbb3 hb3 hp hall3
            go_wp2_with fail
            go_roundw
            case rel => exact ⟨j + 1, by omega, by go_num, hall3', hbb3'⟩
            case measure => simp [intOf]; omega
        · obtain rfl : j = sn := by omega
          have hok : okVt (f + 1) (n + 1) d := by
            have hs : ∀ s ∈ d.2.1, okVt f n s.2 := fun s hs => by
              obtain ⟨i, hi, rfl⟩ := List.getElem_of_mem hs; exact hall2.out i hi (by rw [← hsn'.out]; exact hi)
            refine ⟨⟨by rw [htn'.out]; omega, by rw [hbn'.out]; omega, by rw [hsn'.out]; omega, fun s h => (hs s h).1⟩, ⟨fun t ht => ?_, fun s h => (hs s h).2.1⟩, ?_⟩
            · obtain ⟨i, hi, rfl⟩ := List.getElem_of_mem ht
              exact hall.out i hi (by rw [← htn'.out]; exact hi)
            · have h1 := flats_le f (capV n) d.2.1 (fun s h => (hs s h).2.2)
              have h2 : d.2.1.length * capV n ≤ 6 * capV n := Nat.mul_le_mul_right _ (by rw [hsn'.out]; omega); rw [hfl'.out]
              show _ ≤ 1 + 6 * capV n
              omega
          have hok' := Lib.hid hok; have hbw' := Lib.hid hbw; clear hok hbw
          go_wp2_with fail
          go_ret
          exact ⟨_, rfl, hbw'.out, fun _ => hok'.out⟩
theorem vast_any : ∀ n, n ≤ 8 → PVast n := by
  intro n
  induction n with
  | zero => intro _; exact vast_zero
  | succ n ih => intro h; exact vast_step n (by omega) (ih (by omega))
end Go.Proofs.YtceclmpmpldmlaaGreat

namespace Go.Proofs.YtceclmpmpldmlaaGreat
open Go.RowKit Tt
set_option linter.unusedVariables false
set_option linter.unusedSimpArgs false

theorem byt_apP : ∀ (ps : List Pt) (b : List Int), Byt b → (∀ p ∈ ps, Byt p.2) → Byt (apP ps b)
  | [], _, h, _ => h
  | p :: ps, b, h, hp => by
    rw [apP_cons]; refine byt_apP ps _ ?_ fun q hq => hp q (List.mem_cons_of_mem _ hq); have hpp := hp p (List.mem_cons_self ..); unfold splice; intro x hx
    rcases List.mem_append.1 hx with hx | hx
    · exact h x (List.mem_of_mem_take hx)
    · rcases List.mem_append.1 hx with hx | hx
      · exact hpp x hx
      · exact h x (List.mem_of_mem_drop hx)
theorem byt_entW (x : Ent) (o : Int) : Byt (entW x o) := by
  unfold entW; exact (((putS_byt _ _ _).append (putS_byt _ _ _)).append (putS_byt _ _ _)).append (putS_byt _ _ _)
theorem byt_dirQ {L : List Shp} {l : List Spt} {o : Int} : ∀ (f : Nat) (d : DirT f) (no i : Int), bytD f d → ∀ p ∈ dirQ L l o f d no i, Byt p.2
  | 0, _, _, _, _, p, hp => by cases hp
  | f + 1, d, no, i, hb, p, hp => by
    rw [dirQ_succ, putP_eq] at hp
    rcases List.mem_append.1 hp with hp | hp
    · obtain ⟨j, hj, hp⟩ := subP_mem hp
      exact byt_dirQ f _ _ _ (hb.2.1 _ (by rw [getD_el hj]; exact List.getElem_mem hj)) p hp
    rcases List.mem_append.1 hp with hp | hp
    · rcases List.mem_append.1 hp with hp | hp
      · obtain ⟨x, hx, hp⟩ := List.mem_flatMap.1 hp
        unfold patV at hp
        split at hp
        · cases hp
        · obtain rfl : p = _ := by simpa using hp
          exact byt_bytesV (hb.1 x hx)
      · unfold blobP at hp
        split at hp
        · obtain rfl : p = _ := by simpa using hp
          exact hb.2.2
        · cases hp
    · unfold headQ at hp
      rcases List.mem_cons.1 hp with rfl | hp
      · exact putS_byt _ _ _
      · obtain ⟨x, _, rfl⟩ := List.mem_map.1 hp
        exact byt_entW x o
theorem byt_treeW {f : Nat} {o : Int} {ds : List (DirT f)} {L : List Shp} (h : checkS f o ds L = 0) (hb : ∀ d ∈ ds, bytD f d) : Byt (treeW f o ds L) := by
  rw [treeW_Q h hb]; refine byt_apP _ _ (fun x hx => by rw [List.eq_of_mem_replicate hx]; decide) fun p hp => ?_
  rcases List.mem_cons.1 hp with rfl | hp
  · show Byt (signB o)
    unfold signB
    split <;> · intro x hx; simp at hx; omega
  rcases List.mem_cons.1 hp with rfl | hp
  · exact putS_byt _ _ _
  rcases List.mem_cons.1 hp with rfl | hp
  · exact putS_byt _ _ _
  obtain ⟨k, hk, hp⟩ := List.mem_flatMap.1 hp; have hk := List.mem_range.1 hk
  rcases List.mem_append.1 hp with hp | hp
  · exact byt_dirQ f _ _ _ (hb _ (by rw [getD_el hk]; exact List.getElem_mem hk)) p hp
  · unfold nextQ at hp
    split at hp
    · obtain rfl : p = _ := by simpa using hp
      exact putS_byt _ _ _
    · cases hp
end Go.Proofs.YtceclmpmpldmlaaGreat

namespace Go.Proofs.YtceclmpmpldmlaaGreat
open Go.RowKit Tt
set_option linter.unusedVariables false
set_option linter.unusedSimpArgs false

theorem free_zero {f : Nat} {o : Int} {ds : List (DirT f)} {L : List Shp} (h : checkS f o ds L = 0) (hb : ∀ d ∈ ds, bytD f d) {k : Nat} (hk : k < (treeW f o ds L).length) (ht : ∀ s ∈ layT f ds, ¬ (s.2.2.2.1 ≤ k ∧ (k : Int) < s.2.2.2.1 + s.2.2.2.2)) : (treeW f o ds L).getD k 0 = 0 := by
  have hin := treeQ_inB h hb; rw [treeW_Q h hb, apP_out _ _ k (by simp only [List.length_replicate]; exact hin) fun q hq => ?_]
  · rw [List.getD_eq_getElem?_getD, List.getElem?_replicate]
    split <;> rfl
  · obtain ⟨s, s1, _, s2, s3⟩ := (treeQ_dj h hb).2 q hq
    intro hc; exact ht s s1 ⟨by omega, by omega⟩
def spL : List Shp := [([(100, 2)], 200, 300, 1), ([], 200, 300, -1), ([], 200, 300, -1)]
def spW (wt : List Tgs) (wb : List Int) : DirT 1 := (wt, [], wb)
def spF (ft : List Tgs) (fb : List Int) (W : DirT 1) : DirT 2 := (ft, [(100, W)], fb)
def spN (nt : List Tgs) (nb : List Int) : DirT 2 := (nt, [], nb)
def spT (ft : List Tgs) (fb : List Int) (wt : List Tgs) (wb : List Int) (nt : List Tgs) (nb : List Int) : List (DirT 2) := [spF ft fb (spW wt wb), spN nt nb]
structure SpotsOk (o : Int) (z : List Int) (l : List Spt) (ft : List Tgs) (fb : List Int) (wt : List Tgs) (wb : List Int) (nt : List Tgs) (nb : List Int) : Prop where
  h0 : ∃ E, HoldD z l o 0 (atS l 2 0 0) ft fb ([(100, 2)], 200, 300, 1) E ∧ E.length = entN ft.length 1 fb.length ∧ (100, 4, 1, atS l 2 1 0) ∈ E
  h1 : ∃ E, HoldD z l o 1 (atS l 2 1 0) wt wb ([], 200, 300, -1) E ∧ E.length = entN wt.length 0 wb.length
  h2 : ∃ E, HoldD z l o 2 (atS l 2 2 0) nt nb ([], 200, 300, -1) E ∧ E.length = entN nt.length 0 nb.length
  fol : getV z (atS l 2 0 0 + 2 + 12 * ((entN ft.length 1 fb.length : Nat) : Int)) 4 o = atS l 2 2 0
  non : getV z (atS l 2 1 0 + 2 + 12 * ((entN wt.length 0 wb.length : Nat) : Int)) 4 o = 0
  las : getV z (atS l 2 2 0 + 2 + 12 * ((entN nt.length 0 nb.length : Nat) : Int)) 4 o = 0
  dir : ∀ s ∈ l, s.1 = 2 → s.2.2.2.1 = atS l 2 s.2.1 0
  has : ∀ d : Int, 0 ≤ d → d < 3 → ∃ s ∈ l, s.1 = 2 ∧ s.2.1 = d
  ahd : l.Pairwise Ahead
  nn : ∀ s ∈ l, 0 ≤ s.2.2.2.1 ∧ 0 ≤ s.2.2.2.2 ∧ s.2.2.2.1 + s.2.2.2.2 ≤ z.length
  fre : ∀ k : Nat, k < z.length → (∀ s ∈ l, ¬ (s.2.2.2.1 ≤ k ∧ (k : Int) < s.2.2.2.1 + s.2.2.2.2)) → z.getD k 0 = 0
  four : 4 ≤ l.length
  sgn : z.take 2 = signB o
  mag : getV z 2 2 o = 42
  hd : getV z 4 4 o = atS l 2 0 0
  z8 : 8 ≤ z.length
  byt : Byt z
theorem itmD_dir : ∀ (f : Nat) (d : DirT f) (no : Int) (x : Itm), x ∈ itmD f d no → x.1 = 2 → x.2.2.1 = 0
  | 0, _, _, _, h, _ => by cases h
  | f + 1, d, no, x, h, h2 => by
    rw [itmD_succ] at h
    rcases List.mem_cons.1 h with rfl | h
    · rfl
    rcases List.mem_append.1 h with h | h
    · unfold itmV at h
      obtain ⟨t, _, rfl⟩ := List.mem_map.1 h; exact absurd (show (3 : Int) = 2 from h2) (by decide)
    rcases List.mem_append.1 h with h | h
    · obtain ⟨j, _, h⟩ := itmSs_mem h
      exact itmD_dir f _ _ x h h2
    · unfold itmB at h
      split at h
      · obtain rfl := List.mem_singleton.1 h
        exact absurd (show (4 : Int) = 2 from h2) (by decide)
      · cases h
theorem spots_ok {o : Int} {ft : List Tgs} {fb : List Int} {wt : List Tgs} {wb : List Int} {nt : List Tgs} {nb : List Int} (h : checkS 2 o (spT ft fb wt wb nt nb) spL = 0) (hb : ∀ d ∈ spT ft fb wt wb nt nb, bytD 2 d) :
    SpotsOk o (treeW 2 o (spT ft fb wt wb nt nb) spL) (layT 2 (spT ft fb wt wb nt nb)) ft fb wt wb nt nb := by
  obtain ⟨T, hT⟩ : ∃ T, spT ft fb wt wb nt nb = T := ⟨_, rfl⟩; have hTl : T.length = 2 := by rw [← hT]; rfl
  have g0 : T.getD 0 (dirZ 2) = spF ft fb (spW wt wb) := by rw [← hT]; rfl
  have g1 : T.getD 1 (dirZ 2) = spN nt nb := by rw [← hT]; rfl
  rw [hT] at h hb; rw [hT]; have hH := holds_W h hb 0; rw [List.replicate_zero, List.append_nil] at hH; have hO := okt_of h hb; obtain ⟨c1, ho, c3, c4, c5, c6⟩ := chk_of h; have hLo := long_of c6; have hlen := treeW_len h hb; have hdis := hasAll_dis c5; have n0 : noT 2 T 0 = 0 := rfl; have n1 : noT 2 T 1 = 2 := by rw [← hT]; rfl
  have B0 := backT_of h hb hH (k := 0) (by omega); have B1 := backT_of h hb hH (k := 1) (by omega); have K0 := hO.dir 0 (by omega); have K1 := hO.dir 1 (by omega); have A0 := hasAll_get c5 (k := 0) (by omega); have A1 := hasAll_get c5 (k := 1) (by omega); have I0 := itmT_get (f := 2) (ds := T) (k := 0) (by omega); have I1 := itmT_get (f := 2) (ds := T) (k := 1) (by omega); have y0 : bytD 2 (spF ft fb (spW wt wb)) := hb _ (by rw [← g0, getD_el (show 0 < T.length by omega)]; exact List.getElem_mem _); have y1 : bytD 2 (spN nt nb) := hb _ (by rw [← g1, getD_el (show 1 < T.length by omega)]; exact List.getElem_mem _); rw [g0, n0] at B0 K0 I0; rw [g1, n1] at B1 K1 I1; rw [g0] at A0; rw [g1] at A1; have x0 : nxtS spL 0 = 0 := rfl; have x1 : nxtS spL 1 = 1 := rfl; rw [x0] at B0 K0 A0; rw [x1] at B1 K1 A1
  have q1 : nextP 2 T (0 + 1) = atS (layT 2 T) 2 2 0 := by
    unfold nextP; rw [if_pos (by omega), n1]
  have q2 : nextP 2 T (1 + 1) = 0 := by
    unfold nextP; rw [if_neg (by omega)]
  rw [q1] at B0; rw [q2] at B1; obtain ⟨H0, H0l⟩ := holdD_of (Int.le_refl 0) A0 y0 K0 (by rw [hlen]; exact Nat.le_refl _) B0; obtain ⟨H2, H2l⟩ := holdD_of (by decide) A1 y1 K1 (by rw [hlen]; exact Nat.le_refl _) B1; have As := ((hasF_iff.1 A0).sb 0 (by show 0 < 1; decide)).2; have Bs := B0.2.2 0 (by show 0 < 1; decide); obtain ⟨_, k2, _⟩ := okW_succ K0; have Ks := (k2 0 (by show 0 < 1; decide)).2; have ys : bytD 1 (spW wt wb) := y0.2.1 _ (List.mem_cons_self ..); have e1 : ((spF ft fb (spW wt wb)).2.1.getD 0 (0, dirZ 1)) = ((100 : Int), spW wt wb) := rfl; have e2 : subN 1 (spF ft fb (spW wt wb)).2.1 0 0 = 1 := rfl; have e3 : subI (spL.getD (0 : Int).toNat shp0) 100 = 2 := by decide
  rw [e1] at As Bs Ks; simp only at As Bs Ks; rw [e3] at As Bs Ks; rw [e2] at Bs Ks; obtain ⟨H1, H1l⟩ := holdD_of (by decide) As ys Ks (by rw [hlen]; exact Nat.le_refl _) Bs; have J0 := I0 _ (hasS_ent A0 0); have J2 := I1 _ (hasS_ent A1 2); have J1 := I0 _ (itmD_sub (j := 0) (by show 0 < 1; decide) _ (by rw [e1, e2]; exact hasS_ent As 1)); have hh8 := hH.std (4, putS 8 4 o) (List.mem_cons_of_mem _ (List.mem_cons_of_mem _ (List.mem_cons_self ..))); have h42 := hH.std (2, putS 42 2 o) (List.mem_cons_of_mem _ (List.mem_cons_self ..)); have hsg := hH.std (0, signB o) (List.mem_cons_self ..); have k42 : putOk 42 2 o = true := (putOk_iff ho).2 (by decide); have k8 : putOk 8 4 o = true := (putOk_iff ho).2 (by decide); have l42 : (putS 42 2 o).length = 2 := putS_len2 k42; have l8 : (putS 8 4 o).length = 4 := putS_len2 k8; simp only [l42] at h42; simp only [l8] at hh8; simp only [signB_len, List.drop_zero] at hsg; have f8 := first8 h hb; rw [n0] at f8; have hz8 := hO.n8; refine ⟨⟨_, H0, H0l, ?_⟩, ⟨_, H1, H1l⟩, ⟨_, H2, H2l⟩, B0.2.1, Bs.2.1, B1.2.1, fun s hs h2 => ?_, fun d d0 d1 => ?_, layT_ahead 2 T, fun s hs => ?_, fun k hk ht => free_zero h hb hk ht, ?_, hsg.2, ?_, ?_, by omega, byt_treeW h hb⟩
  · refine (sortE_perm _).symm.subset ?_
    unfold entsD; refine List.mem_append.2 (.inl (List.mem_append.2 (.inr (List.mem_map.2 ⟨0, List.mem_range.2 (by show 0 < 1; decide), rfl⟩))))
  · have hm := hs
    rw [(layT_eq 2 T).1] at hm; have hk : keyS s ∈ (placed 0 (itmT 2 T)).map keyS := List.mem_map.2 ⟨s, hm, rfl⟩; rw [placed_keys] at hk; obtain ⟨x, hx, hxe⟩ := List.mem_map.1 hk; have hx1 : x.1 = 2 := (congrArg (fun k => k.1) hxe).trans h2
    have hx0 : x.2.2.1 = 0 := by
      rcases List.mem_cons.1 hx with rfl | hx
      · exact absurd hx1 (by decide)
      · obtain ⟨j, _, hx⟩ := itmSs_mem hx
        exact itmD_dir 2 _ _ x hx hx1
    have ha := (atS_key (layT_keys 2 T hdis) hs).2; have h0 : s.2.2.1 = 0 := (congrArg (fun k => k.2.2) hxe).symm.trans hx0; rw [h2, h0] at ha; exact ha.symm
  · rcases (by omega : d = 0 ∨ d = 1 ∨ d = 2) with rfl | rfl | rfl
    · obtain ⟨s, s1, s2, _⟩ := layT_spot hdis J0
      exact ⟨s, s1, (key_no s2).1, (key_no s2).2.1⟩
    · obtain ⟨s, s1, s2, _⟩ := layT_spot hdis J1
      exact ⟨s, s1, (key_no s2).1, (key_no s2).2.1⟩
    · obtain ⟨s, s1, s2, _⟩ := layT_spot hdis J2
      exact ⟨s, s1, (key_no s2).1, (key_no s2).2.1⟩
  · have hs2 := hs
    rw [(layT_eq 2 T).1] at hs2; have := placed_in (itmT 2 T) 0 (Int.le_refl _) (itmT_nn 2 T) s hs2; rw [← (layT_eq 2 T).2] at this; have hl := hH.len
    omega
  · rw [(layT_eq 2 T).1, placed_len, ← hT]
    show 4 ≤ (((1, -1, 0, 8) : Itm) :: (itmD 2 (spF ft fb (spW wt wb)) 0 ++ (itmD 2 (spN nt nb) 2 ++ []))).length
    have := itmD_sub (f := 1) (d := spF ft fb (spW wt wb)) (no := 0) (j := 0) (by show 0 < 1; decide); rw [itmD_succ, itmD_succ]; have hss : itmSs (itmD 1) (spF ft fb (spW wt wb)).2.1 (0 + 1) = itmD 1 (spW wt wb) (0 + 1) ++ [] := rfl; rw [hss, itmD_succ]; simp only [List.length_cons, List.length_append]
    omega
  · exact getV_put (by decide) ho (by decide) (by omega) k42 h42.2
  · have g8 : getV (treeW 2 o T spL) 4 4 o = 8 := getV_put (by decide) ho (by decide) (by omega) k8 hh8.2
    rw [g8]; exact f8.symm
/-- what the loop over the spots keeps -/
structure SpK (l : List Spt) (n i : Nat) (E x0 x1 x2 : Int) : Prop where
  e0 : 0 ≤ E
  eM : E ≤ n
  en : ∀ s ∈ l.take i, s.2.2.2.1 + s.2.2.2.2 ≤ E
  k0 : ∀ s ∈ l.take i, s.1 = 2 → s.2.1 = 0 → x0 = atS l 2 0 0
  k1 : ∀ s ∈ l.take i, s.1 = 2 → s.2.1 = 1 → x1 = atS l 2 1 0
  k2 : ∀ s ∈ l.take i, s.1 = 2 → s.2.1 = 2 → x2 = atS l 2 2 0
theorem spK_zero (l : List Spt) (n : Nat) : SpK l n 0 0 0 0 0 := ⟨Int.le_refl _, by omega, fun s hs => by simp at hs, fun s hs => by simp at hs, fun s hs => by simp at hs, fun s hs => by simp at hs⟩
theorem take_succ_mem {l : List Spt} {i : Nat} (hi : i < l.length) {s : Spt} (h : s ∈ l.take (i + 1)) : s ∈ l.take i ∨ s = l[i] := by
  rw [List.take_add_one, List.getElem?_eq_getElem hi, Option.toList_some] at h
  rcases List.mem_append.1 h with h | h
  · exact .inl h
  · exact .inr (List.mem_singleton.1 h)
theorem spK_step {o : Int} {z : List Int} {l : List Spt} {ft : List Tgs} {fb : List Int} {wt : List Tgs} {wb : List Int} {nt : List Tgs} {nb : List Int} (hO : SpotsOk o z l ft fb wt wb nt nb) {i : Nat} {E x0 x1 x2 y0 y1 y2 : Int} (h : SpK l z.length i E x0 x1 x2) (hi : i < l.length)
    (q0 : (l[i].1 = 2 ∧ l[i].2.1 = 0 ∧ y0 = l[i].2.2.2.1) ∨ (¬ (l[i].1 = 2 ∧ l[i].2.1 = 0) ∧ y0 = x0)) (q1 : (l[i].1 = 2 ∧ l[i].2.1 = 1 ∧ y1 = l[i].2.2.2.1) ∨ (¬ (l[i].1 = 2 ∧ l[i].2.1 = 1) ∧ y1 = x1)) (q2 : (l[i].1 = 2 ∧ l[i].2.1 = 2 ∧ y2 = l[i].2.2.2.1) ∨ (¬ (l[i].1 = 2 ∧ l[i].2.1 = 2) ∧ y2 = x2)) :
    SpK l z.length (i + 1) (l[i].2.2.2.1 + l[i].2.2.2.2) y0 y1 y2 := by
  have hn := hO.nn _ (List.getElem_mem hi)
  have step : ∀ (d x y : Int), ((l[i].1 = 2 ∧ l[i].2.1 = d ∧ y = l[i].2.2.2.1) ∨ (¬ (l[i].1 = 2 ∧ l[i].2.1 = d) ∧ y = x)) → (∀ s ∈ l.take i, s.1 = 2 → s.2.1 = d → x = atS l 2 d 0) → ∀ s ∈ l.take (i + 1), s.1 = 2 → s.2.1 = d → y = atS l 2 d 0 := fun d x y hq hk s hs h2 h3 => by
    rcases hq with ⟨a, b, c⟩ | ⟨a, c⟩
    · rw [c, hO.dir _ (List.getElem_mem hi) a, b]
    · rcases take_succ_mem hi hs with hs | rfl
      · rw [c]; exact hk s hs h2 h3
      · exact absurd ⟨h2, h3⟩ a
  refine ⟨by omega, hn.2.2, fun s hs => ?_, step 0 x0 y0 q0 h.k0, step 1 x1 y1 q1 h.k1, step 2 x2 y2 q2 h.k2⟩
  rcases take_succ_mem hi hs with hs | rfl
  · obtain ⟨j, hj, rfl⟩ := List.getElem_of_mem hs
    have hj2 : j < i := by rw [List.length_take] at hj; omega
    rw [List.getElem_take]; have := List.pairwise_iff_getElem.1 hO.ahd j i (by omega) hi hj2; unfold Ahead at this
    omega
  · exact Int.le_refl _
theorem spK_gap {o : Int} {z : List Int} {l : List Spt} {ft : List Tgs} {fb : List Int} {wt : List Tgs} {wb : List Int} {nt : List Tgs} {nb : List Int} (hO : SpotsOk o z l ft fb wt wb nt nb) {i : Nat} {E x0 x1 x2 : Int} (h : SpK l z.length i E x0 x1 x2) (hi : i < l.length) {k : Nat} (h1 : E ≤ k) (h2 : (k : Int) < l[i].2.2.2.1) (h3 : k < z.length) : z.getD k 0 = 0 := by
  refine hO.fre k h3 fun s hs hc => ?_; obtain ⟨j, hj, rfl⟩ := List.getElem_of_mem hs
  rcases Nat.lt_trichotomy j i with hji | hji | hji
  · have := h.en l[j] (List.mem_take_iff_getElem.2 ⟨j, by omega, rfl⟩)
    omega
  · subst hji; omega
  · have := List.pairwise_iff_getElem.1 hO.ahd i j hi hj hji
    unfold Ahead at this; have := hO.nn _ (List.getElem_mem hi)
    omega
theorem spK_end {o : Int} {z : List Int} {l : List Spt} {ft : List Tgs} {fb : List Int} {wt : List Tgs} {wb : List Int} {nt : List Tgs} {nb : List Int} (hO : SpotsOk o z l ft fb wt wb nt nb) {E x0 x1 x2 : Int} (h : SpK l z.length l.length E x0 x1 x2) : x0 = atS l 2 0 0 ∧ x1 = atS l 2 1 0 ∧ x2 = atS l 2 2 0 := by
  obtain ⟨s0, a0, b0, c0⟩ := hO.has 0 (by decide) (by decide); obtain ⟨s1, a1, b1, c1⟩ := hO.has 1 (by decide) (by decide); obtain ⟨s2, a2, b2, c2⟩ := hO.has 2 (by decide) (by decide); rw [← List.take_length (l := l)] at a0 a1 a2; exact ⟨h.k0 _ a0 b0 c0, h.k1 _ a1 b1 c1, h.k2 _ a2 b2 c2⟩
theorem lay_le3 {T : List (DirT 2)} (hs : ∀ d ∈ T, smallD 2 d) (h3 : (flatT 2 T).length = 3) : endS (layT 2 T) ≤ 1000000000 := by
  have e : endS (addS [] 1 (-1) 0 8) = 8 := rfl
  have h := (laySubs_le 2 (layS_le 2) (prs 2 T) (addS [] 1 (-1) 0 8, 0) (fun s hs2 => by
    obtain ⟨d, hd, rfl⟩ := List.mem_map.1 hs2; exact hs d hd) (by rw [e]; decide)).2.1
  rw [flats_prs, h3, e] at h; unfold layT
  omega
end Go.Proofs.YtceclmpmpldmlaaGreat

namespace Go.Proofs.YtceclmpmpldmlaaGreat
open Go.RowKit Tt
set_option linter.unusedVariables false
set_option linter.unusedSimpArgs false

/-- bytes that are read; they lie below, or are such -/
def Bd (B : Nat) (w : World) (v : Value) (n : Nat) (P : List Int) : Prop :=
  ∃ a c, v = .slice a n c ∧ Sl w a n c 1 (ints .u8 P) ∧ ∀ x, a = some x → x.block < B ∨ ∃ cur fz, w.heap[x.block]? = some (.cells cur 5 fz)
section
variable {n : Nat} {w wr w2 : World} {dv sv : Array Value} {bv lv : Value} {P : List Int} {es : List Ent}
end
end Go.Proofs.YtceclmpmpldmlaaGreat
