/- Chapter 21: a tree is written: the document. -/
import Derived.Test.YtilennmeiaehnaaGreatCw39
import Derived.Test.YtilennmeiaehnaaGreatCw40
import Derived.Test.YtilennmeiaehnaaGreatCw29
import Derived.Test.YtilennmeiaehnaaGreatCw13
namespace Go.Proofs.YtilennmeiaehnaaGreat
open Go.RowKit Tt
set_option linter.unusedVariables false
set_option linter.unusedSimpArgs false
set_option maxRecDepth 20000 in
set_option maxHeartbeats 2000000 in
theorem rtwrite_any (f : Nat) (o : Int) (sa : Option Addr) (sn sc : Nat) (ds : List (DirT f)) (a : Option Addr) (n c : Nat) (zs : List Shz) (w : World) (h : DirsR f w sa sn sc ds) (hz : ShR w a n c zs) (hs : ∀ d ∈ ds, smallD f d) (hby : ∀ d ∈ ds, bytD f d) (hN : (flatT f ds).length < 1000) (hsn : sn ≤ 6) :
    Calls Tryz.prog 14 #[.agg #[.int .i64 o, .slice sa sn sc], .slice a n c] w fun e w' => ∃ a' m c', e = .returned (.tuple #[.slice a' m c', .int .i64 (checkS f o ds (shps zs))]) ∧ w'.ownsRow w.heap.size 5 1 (.slice a' m c') m (ints .u8 (wrtS f o ds (shps zs))) ∧ Below w.heap.size w w' := by
  have hb1 := (Below.refl w.heap.size w).alloc (Nat.le_refl _) (.cells #[.int .i64 o, .slice sa sn sc] 24)
  have bA := Blk.new w 24 #[.int .i64 o, .slice sa sn sc]
  obtain ⟨W1, hW1⟩ : ∃ W1, w.alloc (.cells #[.int .i64 o, .slice sa sn sc] 24) = W1 := ⟨_, rfl⟩
  rw [hW1] at hb1 bA
  have hC := rcheck_any f o sa sn sc ds a n c zs W1 (h.mono hb1) (hz.mono hb1) hs hN hsn
  have hok := fun e => okt_of (f := f) (o := o) (ds := ds) (L := shps zs) e hby
  obtain ⟨R, hR⟩ : ∃ R, checkS f o ds (shps zs) = R := ⟨_, rfl⟩
  have hwr : wrtS f o ds (shps zs) = if R = 0 then treeW f o ds (shps zs) else [] := by unfold wrtS; rw [hR]
  rw [hR] at hC hok ⊢
  obtain ⟨WB, hWB⟩ : ∃ x, wrtS f o ds (shps zs) = x := ⟨_, rfl⟩
  rw [hWB] at hwr ⊢
  have c0 : W1.cell? ⟨w.heap.size, 0, none⟩ = some (.int .i64 o) := bA.cell rfl
  have c1 : W1.cell? ⟨w.heap.size, 1, none⟩ = some (.slice sa sn sc) := bA.cell rfl
  have h' := Lib.hid h
  have hz' := Lib.hid hz
  have hs' := Lib.hid hs
  have hby' := Lib.hid hby
  have hN' := Lib.hid hN
  have hb1' := Lib.hid hb1
  have bA' := Lib.hid bA
  have hW1' := Lib.hid hW1
  have hC' := Lib.hid hC
  have hwr' := Lib.hid hwr
  have hok' := Lib.hid hok
  have hWB' := Lib.hid hWB
  clear h hz hs hby hN hb1 bA hW1 hC hwr hok hWB
  go_enter Tryz.func14, Tryz.ntmps14
  go_wp2_with fail
  rw [hW1'.out]
  refine hC'.out.mono ?_
  rintro e w2 ⟨rfl, hb2⟩
  have bA2 := bA'.out.late hb2
  have hbw2 := hb1'.out.trans (hb2.mono hb1'.out.size)
  clear c0 c1
  by_cases hR0 : R = 0
  · subst hR0
    rw [if_pos (by rfl)] at hwr'
    have hO := hok'.out rfl
    have hAll := (chk_of hR).2.2.2.2.1
    have hOf := rlof_any f o sa sn sc ds w2 (h'.out.mono hbw2) hs'.out hN'.out
    have c0 : w2.cell? ⟨w.heap.size, 0, none⟩ = some (.int .i64 o) := bA2.cell rfl
    have c1 : w2.cell? ⟨w.heap.size, 1, none⟩ = some (.slice sa sn sc) := bA2.cell rfl
    have hR' := Lib.hid hR
    have hb2' := Lib.hid hb2
    have bA2' := Lib.hid bA2
    have hbw2' := Lib.hid hbw2
    have hO' := Lib.hid hO
    have hAll' := Lib.hid hAll
    have hOf' := Lib.hid hOf
    clear hR hb2 bA2 hbw2 hO hAll hOf
    go_wp2_with fail
    refine hOf'.out.mono ?_
    rintro e w3 ⟨hor, hb3⟩
    obtain ⟨v3, rfl, hsp3⟩ : ∃ v, e = .returned (.tuple #[v, .bool true]) ∧ Spr w2.heap.size w3 v (layT f ds) := by
      rcases hor with ⟨_, h⟩ | ⟨h, _⟩
      · exact h
      · rw [hO'.out.fit] at h; cases h
    obtain ⟨spa, spc, rfl⟩ : ∃ a c, v3 = .slice a (layT f ds).length c := by
      rcases hsp3.2 with ⟨rfl, h0⟩ | ⟨g, cap, cur, rfl, _⟩
      · exact ⟨none, 0, by rw [h0]⟩
      · exact ⟨_, _, rfl⟩
    obtain ⟨spn, hspn⟩ : ∃ x, (layT f ds).length = x := ⟨_, rfl⟩
    have hsp3s := (Sl.of_own hsp3).1
    rw [hspn] at hsp3s ⊢
    have bA3 := bA2'.out.late hb3
    have hbw3 := hbw2'.out.trans (hb3.mono hbw2'.out.size)
    clear c0 c1
    have c0 : w3.cell? ⟨w.heap.size, 0, none⟩ = some (.int .i64 o) := bA3.cell rfl
    have c1 : w3.cell? ⟨w.heap.size, 1, none⟩ = some (.slice sa sn sc) := bA3.cell rfl
    obtain ⟨m, hm⟩ : ∃ m : Nat, longT f ds = m := ⟨(longT f ds).toNat, by have := hO'.out.n8; omega⟩
    have hm8 := hO'.out.n8
    have hm1 := hO'.out.n1
    have hL := rlng_any f o sa sn sc ds w3 (h'.out.mono hbw3) hs'.out hN'.out
    rw [hm] at hL hm8 hm1
    have hor' := Lib.hid hor
    have hsp3' := Lib.hid hsp3
    have hspn' := Lib.hid hspn
    have hsp3s' := Lib.hid hsp3s
    have hb3' := Lib.hid hb3
    have bA3' := Lib.hid bA3
    have hbw3' := Lib.hid hbw3
    have hm' := Lib.hid hm
    have hL' := Lib.hid hL
    clear hor hsp3 hspn hsp3s hb3 bA3 hbw3 hm hL
    go_wp2_with fail
    refine hL'.out.mono ?_
    rintro e w4 ⟨rfl, hb4⟩
    have bA4 := bA3'.out.late hb4
    have hbw4 := hbw3'.out.trans (hb4.mono hbw3'.out.size)
    have hsp4 := hsp3s'.out.mono hb4
    clear c0 c1
    obtain ⟨i0, hi, hz0, hz1, hz2⟩ := info_parts infoBB
    have hb4' := Lib.hid hb4
    have bA4' := Lib.hid bA4
    have hbw4' := Lib.hid hbw4
    have hsp4' := Lib.hid hsp4
    clear hb4 bA4 hbw4 hsp4
    go_upto_region 6 with (at_make; refine wpList_make_full w4 rfl _ _ 30 rfl w4.heap.size 5 i0 _ 1 Tryz.underlying30 hi hz0 hz1 .i64 .i64 _ _ m rfl rfl rfl rfl (by rw [hz2]; omega) (by unfold maxLen; omega) (Nat.le_refl _) ?_; intro w5 hown hg5; have R5 := Row.of_own (by rw [made_row] at hown; exact hown); have hb5 := (Below.refl w4.heap.size w4).grown hg5 (Nat.le_refl _) (fun k e => by cases e); clear hown hg5)
    have bA6 := bA4'.out.late hb5
    have hbw6 := hbw4'.out.trans (hb5.mono hbw4'.out.size)
    have hsp6 := hsp4'.out.mono hb5
    obtain ⟨g5, hg5⟩ : ∃ g5, w4.heap.size = g5 := ⟨_, rfl⟩
    rw [hg5] at R5 ⊢
    obtain ⟨w6, rfl⟩ : ∃ w6, w6 = w5 := ⟨_, rfl⟩
    have hz6 := hz'.out.mono hbw6
    obtain ⟨dvs, hdl, hsl, hsub⟩ := h'.out
    have hdn : ds.length = sn := by rw [← hdl]; exact hsl.flen dvC_len (by decide)
    have hzl : (shps zs).length = n := by unfold shps; rw [List.length_map]; exact hz'.out.len
    have hqm := hz'.out.row.max
    have hql := hz'.out.row.le
    have hp42 : putOk 42 2 o = true := (putOk_iff hO'.out.ord).2 (by decide)
    have hp8 : putOk 8 4 o = true := (putOk_iff hO'.out.ord).2 (by decide)
    have hlt6 : w.heap.size < w6.heap.size := bA6.lt
    have hZ6 : Sl w6 (some ⟨g5, 0, none⟩) m m 1 (ints .u8 (List.replicate m 0)) := (Sl.of_own (R5.own (by simp) (B := w.heap.size) (by rw [← hg5]; exact hbw4'.out.size) (by unfold maxLen; omega))).1
    by_cases ho2 : o = 2
    · have e1 : (o == 2) = true := by simp [ho2]
      obtain ⟨W7, hW7, b73, b77, hbx, s7⟩ := two_boxes w6 5 #[.int .u8 73, .int .u8 73] 5 #[.int .u8 77, .int .u8 77]
      have c0 : w6.cell? ⟨w.heap.size, 0, none⟩ = some (.int .i64 o) := bA6.cell rfl
      have bAx := bA6.late hbx
      have hZ := hZ6.mono hbx
      have hsgn : Sl W7 (some ⟨w6.heap.size + 1, 0, none⟩) 2 2 1 (ints .u8 (signB o)) := by
        have := Sl.new (w6.alloc (.cells #[.int .u8 73, .int .u8 73] 5)) 5 1 2 #[.int .u8 77, .int .u8 77] (0, 0) (by omega) rfl
        rw [hW7, show (w6.alloc (.cells #[.int .u8 73, .int .u8 73] 5)).heap.size = w6.heap.size + 1 by simp] at this
        unfold signB
        rw [if_pos ho2]
        exact this
      have hb5' := Lib.hid hb5
      have bA6' := Lib.hid bA6
      have hbw6' := Lib.hid hbw6
      have hsp6' := Lib.hid hsp6
      have hg5' := Lib.hid hg5
      have hz6' := Lib.hid hz6
      have hdl' := Lib.hid hdl
      have hsl' := Lib.hid hsl
      have hsub' := Lib.hid hsub
      have hdn' := Lib.hid hdn
      have hzl' := Lib.hid hzl
      have hp42' := Lib.hid hp42
      have hp8' := Lib.hid hp8
      have R5' := Lib.hid R5
      have hZ6' := Lib.hid hZ6
      have hW7' := Lib.hid hW7
      have b73' := Lib.hid b73
      have b77' := Lib.hid b77
      have hbx' := Lib.hid hbx
      have bAx' := Lib.hid bAx
      have hZ' := Lib.hid hZ
      have hsgn' := Lib.hid hsgn
      have ho2' := Lib.hid ho2
      clear hb5 bA6 hbw6 hsp6 hg5 hz6 hdl hsl hsub hdn hzl hp42 hp8 R5 hZ6 hW7 b73 b77 hbx bAx hZ hsgn ho2
      go_upto_region 9 with fail
      clear c0
      try rw [hW7'.out]
      have hov := over_any (some ⟨g5, 0, none⟩) m m (List.replicate m 0) 0 (some ⟨w6.heap.size + 1, 0, none⟩) 2 2 (signB o) W7 hZ'.out hsgn'.out (by omega) (by omega)
      have q0 : W7.cell? ⟨w.heap.size, 0, none⟩ = some (.int .i64 o) := bAx'.out.cell rfl
      have hov' := Lib.hid hov
      clear hov
      go_wp2_with fail
      refine hov'.out.mono ?_
      rintro e w8 ⟨a8, c8, rfl, ho8, hb8⟩
      have hb68 := hbx'.out.trans (hb8.mono hbx'.out.size)
      have bA8 := bAx'.out.late hb8
      have hN1 := number_any a8 m c8 _ 2 42 2 o w8 (Sl.of_own ho8).1 (by omega) hp42'.out (by rw [show (2 : Int).toNat = 2 from rfl]; omega)
      clear q0
      have q0 : w8.cell? ⟨w.heap.size, 0, none⟩ = some (.int .i64 o) := bA8.cell rfl
      have ho8' := Lib.hid ho8
      have hb8' := Lib.hid hb8
      have hb68' := Lib.hid hb68
      have bA8' := Lib.hid bA8
      have hN1' := Lib.hid hN1
      clear ho8 hb8 hb68 bA8 hN1
      go_wp2_with fail
      refine hN1'.out.mono ?_
      rintro e w9 ⟨a9, c9, rfl, ho9, hb9⟩
      have hb69 := hb68'.out.trans (hb9.mono hb68'.out.size)
      have bA9 := bA8'.out.late hb9
      have hN2 := number_any a9 m c9 _ 4 8 4 o w9 (Sl.of_own ho9).1 (by omega) hp8'.out (by rw [show (4 : Int).toNat = 4 from rfl]; omega)
      clear q0
      have q0 : w9.cell? ⟨w.heap.size, 0, none⟩ = some (.int .i64 o) := bA9.cell rfl
      have ho9' := Lib.hid ho9
      have hb9' := Lib.hid hb9
      have hb69' := Lib.hid hb69
      have bA9' := Lib.hid bA9
      have hN2' := Lib.hid hN2
      clear ho9 hb9 hb69 bA9 hN2
      go_wp2_with fail
      refine hN2'.out.mono ?_
      rintro e w10 ⟨a10, c10, rfl, ho10, hb10⟩
      have hb610 := hb69'.out.trans (hb10.mono hb69'.out.size)
      have bA10 := bA9'.out.late hb10
      clear q0
      obtain ⟨P3, hP3⟩ : ∃ P3, splice (splice (splice (List.replicate m 0) 0 (signB o)) 2 (putS 42 2 o)) 4 (putS 8 4 o) = P3 := ⟨_, rfl⟩
      rw [hP3] at ho10
      have ho10 := own_mono ho10 (show w.heap.size ≤ w9.heap.size from Nat.le_trans hbw6'.out.size hb69'.out.size)
      have hWB : WB = apP (chQ (shps zs) (layT f ds) o f ds ds.length) P3 := by
        rw [hwr'.out, treeW_Q hR'.out hby'.out, hm'.out, Int.toNat_natCast, ← hP3]; rfl
      have ho10' := Lib.hid ho10
      have hb10' := Lib.hid hb10
      have hb610' := Lib.hid hb610
      have bA10' := Lib.hid bA10
      have hP3' := Lib.hid hP3
      have hWB' := Lib.hid hWB
      clear ho10 hb10 hb610 bA10 hP3 hWB
      go_wp2_with fail
      go_loopw [9, 11, 12, 13] (fun bv nv sv iv wr => ∃ (k : Nat) (a : Option Addr) (c : Nat), k ≤ sn ∧ bv = .slice a m c ∧ iv = .int .i64 k ∧ nv = .int .i64 (noT f ds k) ∧ sv = .int .i64 (nxtS (shps zs) k) ∧ Hid (wr.ownsRow w.heap.size 5 1 (.slice a m c) m (ints .u8 (apP (chQ (shps zs) (layT f ds) o f ds k) P3))) ∧ Hid (Below w6.heap.size w6 wr)) (fun _ _ _ iv _ => sn - (intOf iv).toNat)
      case atStart =>
        exact ⟨0, a10, c10, by omega, rfl, rfl, by simp [noT, flatT], rfl, ho10', hb610'⟩
      case round =>
        obtain ⟨k, ak, ck, hk, rfl, rfl, rfl, rfl, hown, hbk⟩ := hrel
        have hbr := hbw6'.out.trans (hbk.out.mono hbw6'.out.size)
        have bAr := bA6'.out.late hbk.out
        have q1 : wr.cell? ⟨w.heap.size, 1, none⟩ = some (.slice sa sn sc) := bAr.cell rfl
        by_cases hlt : k < sn
        · have hil : (k : Int) < (sn : Int) := by omega
          have hw1 : IntKind.i64.wrap ((k : Int) + 1) = k + 1 := by rw [IntKind.wrap_i64]; omega
          have hid : k < ds.length := by rw [hdn'.out]; exact hlt
          have hids : k < dvs.length := by rw [hdl'.out]; exact hid
          obtain ⟨xb, xo, rfl, hxlt, fe⟩ := hsl'.out.elem dvC_len (by decide) dzz hlt
          rw [getD_el hids] at fe
          have hq2 := hsub'.out k hids hid
          obtain ⟨ua, un, uc, ra, rn, rc, ya, yn, yc, hv⟩ := hq2.v
          have g0 := fe 0 _ rfl
          have g1 := fe 1 _ rfl
          have g2 := fe 2 _ rfl
          clear fe
          rw [hv] at hq2 g0 g1 g2
          simp only [Nat.add_zero] at g0 g1 g2
          have hgi : ds.getD k (dirZ f) = ds[k] := getD_el hid _
          have hsm := hs'.out _ (List.getElem_mem hid)
          have hbd := hby'.out _ (List.getElem_mem hid)
          have hnx := hO'.out.nx k hid
          have hdk := hO'.out.dir k hid
          have hhk := hasAll_get hAll'.out hid
          rw [hm'.out, Int.toNat_natCast] at hdk
          have hnl := nxt_lt hO'.out.shp k
          rw [hzl'.out] at hnl
          have hNs := noT_step f ds hid
          have hNl := noT_le f ds k
          have hNl2 := noT_le f ds (k + 1)
          have hNN := hN'.out
          have hCs := chQ_step (shps zs) (layT f ds) o f ds k
          have hLs : lnkT (layT f ds) f ds (k + 1) = atS (layT f ds) 2 (noT f ds k) 0 + 2 + 12 * (entD f (ds.getD k (dirZ f)) : Nat) := rfl
          have hXs : nxtS (shps zs) (k + 1) = ((shps zs).getD (nxtS (shps zs) k).toNat shp0).2.2.2 := rfl
          obtain ⟨hen, he1, he2, he3⟩ := dirR_ent hq2 hsm
          rw [hgi] at hdk hNs hCs hLs hhk
          obtain ⟨ik, hik⟩ : ∃ x : Nat, nxtS (shps zs) k = x := ⟨(nxtS (shps zs) k).toNat, by omega⟩
          rw [hik] at hdk hnl hCs hXs hhk
          have hlk := hO'.out.lnk (k + 1)
          have hpk2 := hO'.out.pk (k + 1)
          obtain ⟨ns, hns⟩ : ∃ x, noT f ds k = x := ⟨_, rfl⟩
          rw [hns] at hdk hNs hNl hCs hLs
          obtain ⟨n2, hn2⟩ : ∃ x, noT f ds (k + 1) = x := ⟨_, rfl⟩
          rw [hn2] at hNs hNl2 hpk2
          have hnq : nextQ (layT f ds) o f ds k = if k + 1 < ds.length then [((lnkT (layT f ds) f ds (k + 1)).toNat, putS (atS (layT f ds) 2 n2 0) 4 o)] else [] := by
            unfold nextQ linkP2; rw [hn2]
          obtain ⟨dd, hdd⟩ : ∃ dd, ds[k] = dd := ⟨_, rfl⟩
          rw [hdd] at hq2 hsm hbd hdk hNs hCs hLs hhk hen
          rw [hen] at hLs
          have hin : (ik : Int) < (n : Int) := by omega
          have hik0 : (0 : Int) ≤ (ik : Int) := by omega
          have hbl : Below w.heap.size w wr ∧ Blk wr w.heap.size 24 #[.int .i64 o, .slice (some ⟨xb, xo, none⟩) sn sc] ∧ Below w6.heap.size w6 wr := ⟨hbr, bAr, hbk.out⟩
          have hqt := (Below.refl wr.heap.size wr).drew
          obtain ⟨Ty, ff, hne, hcl, hsurj⟩ := pred_worlds (fun W => Below w.heap.size w W ∧ Blk W w.heap.size 24 #[.int .i64 o, .slice (some ⟨xb, xo, none⟩) sn sc] ∧ Below w6.heap.size w6 W) wr hbl
          have hbrD := hbr.trans (hqt.mono hbr.size)
          have bArD := bAr.late hqt
          have hbkD := hbk.out.trans (hqt.mono hbk.out.size)
          have hownD := own_later hown.out hqt
          have HS := Lib.hid (hsurj wr.drew ⟨hbrD, bArD, hbkD⟩)
          have p0 : ∀ s, (ff s).cell? ⟨w.heap.size, 0, none⟩ = some (.int .i64 o) := fun s => (hcl s).2.1.cell rfl
          have p1 : ∀ s, (ff s).cell? ⟨w.heap.size, 1, none⟩ = some (.slice (some ⟨xb, xo, none⟩) sn sc) := fun s => (hcl s).2.1.cell rfl
          have p2 : ∀ s, (ff s).cell? ⟨xb, xo + k * 3, none⟩ = some (.slice ua un uc) := fun s => late (hcl s).1 hxlt g0
          have p3 : ∀ s, (ff s).cell? ⟨xb, xo + k * 3 + 1, none⟩ = some (.slice ra rn rc) := fun s => late (hcl s).1 hxlt g1
          have p4 : ∀ s, (ff s).cell? ⟨xb, xo + k * 3 + 2, none⟩ = some (.slice ya yn yc) := fun s => late (hcl s).1 hxlt g2
          obtain ⟨wD, hwD⟩ : ∃ wD, wr.drew = wD := ⟨_, rfl⟩
          rw [hwD] at HS hbrD bArD hbkD hownD
          have hI := rwrt_any zs a n c spa spn spc (layT f ds) m o f w6 wD ak ck _ dd (.slice ua un uc, .slice ra rn rc, .slice ya yn yc) ns ik (Sl.of_own hownD).1 hbkD hsp6'.out hz6'.out (hq2.mono hbw6'.out) hsm hbd hO'.out.shp hhk hdk (by omega) (by omega) (by omega) (by omega)
          simp only at hI
          rw [← hNs, ← apP_append] at hI
          have hbr' := Lib.hid hbr
          have bAr' := Lib.hid bAr
          have hq2' := Lib.hid hq2
          have hv' := Lib.hid hv
          have hgi' := Lib.hid hgi
          have hsm' := Lib.hid hsm
          have hbd' := Lib.hid hbd
          have hdk' := Lib.hid hdk
          have hhk' := Lib.hid hhk
          have hNs' := Lib.hid hNs
          have hCs' := Lib.hid hCs
          have hLs' := Lib.hid hLs
          have hXs' := Lib.hid hXs
          have hen' := Lib.hid hen
          have hns' := Lib.hid hns
          have hik' := Lib.hid hik
          have hdd' := Lib.hid hdd
          have hbl' := Lib.hid hbl
          have hqt' := Lib.hid hqt
          have hcl' := Lib.hid hcl
          have hsurj' := Lib.hid hsurj
          have hbrD' := Lib.hid hbrD
          have bArD' := Lib.hid bArD
          have hbkD' := Lib.hid hbkD
          have hownD' := Lib.hid hownD
          have hI' := Lib.hid hI
          have hnq' := Lib.hid hnq
          have hpk2' := Lib.hid hpk2
          have hlk' := Lib.hid hlk
          have hn2' := Lib.hid hn2
          clear hbr bAr hq2 hv hgi hsm hbd hdk hhk hNs hCs hLs hXs hen hns hik hdd hbl hqt hcl hsurj hbrD bArD hbkD hownD hI hnq hpk2 hlk hn2
          rw [hns'.out, hik'.out]
          go_wp2_with fail
          clear q1
          refine held_begin (S := fun W => ∃ s, W = ff s) (by kernel_rfl) 18 rfl ?_
          rw [hwD]
          refine held_take [0, 1, 2, 3, 4, 5, 6, 7, 8, 9, 10, 11] 6 (by kernel_rfl) (fun d _ _ _ _ h => by cases d <;> exact h) (by kernel_rfl) (by kernel_rfl) (by kernel_rfl) HS.out ?_
          simp only [pickL, List.map_cons, List.map_nil, List.getD_cons_succ, List.getD_cons_zero]
          iterate 12 (go_big_quiet_step (fail))
          refine wpQuiet_nil ?_
          clear p0 p1 p2 p3 p4 hwD
          refine held_one 12 5 (by kernel_rfl) (by kernel_rfl) ?_
          simp only [pickL, List.map_cons, List.map_nil, List.getD_cons_succ, List.getD_cons_zero]
          go_wp2_with fail
          refine hI'.out.mono ?_
          rintro e w11 ⟨a11, c11, rfl, ho11, hb11⟩
          have hbr11 := hbrD'.out.trans (hb11.mono hbrD'.out.size)
          have bA11 := bArD'.out.late hb11
          have hbk11 := hbkD'.out.trans (hb11.mono hbkD'.out.size)
          have ho12 := own_mono ho11 (show w.heap.size ≤ wD.heap.size from hbrD'.out.size)
          have HS := Lib.hid (hsurj'.out _ ⟨hbr11, bA11, hbk11⟩)
          have hb11' := Lib.hid hb11
          have ho11' := Lib.hid ho11
          have hbr11' := Lib.hid hbr11
          have bA11' := Lib.hid bA11
          have hbk11' := Lib.hid hbk11
          have ho12' := Lib.hid ho12
          clear hb11 ho11 hbr11 bA11 hbk11 ho12
          go_wp2_with fail
          first | refine Mid.mk ⟨HS.out, ?_⟩ | refine Mid.mk ?_
          refine held_take [13, 14, 15, 16, 17] 0 (by kernel_rfl) (fun d _ _ _ _ h => by cases d <;> exact h) (by kernel_rfl) (by kernel_rfl) (by kernel_rfl) HS.out ?_
          simp only [pickL, List.map_cons, List.map_nil, List.getD_cons_succ, List.getD_cons_zero]
          iterate 5 (go_big_quiet_step (fail))
          refine wpQuiet_nil ?_
          refine held_last (by kernel_rfl) ?_
          have q1 : w11.cell? ⟨w.heap.size, 1, none⟩ = some (.slice (some ⟨xb, xo, none⟩) sn sc) := bA11'.out.cell rfl
          clear HS hbl' hcl' hsurj'
          by_cases hl1 : k + 1 < sn
          · have e1 : decide ((k : Int) + 1 < (sn : Int)) = true := by simp; omega
            have hl2 : k + 1 < ds.length := by rw [hdn'.out]; exact hl1
            have hlk1 := hlk'.out hl2
            have hpk1 := hpk2'.out hl2
            rw [if_pos hl2] at hnq'
            rw [hm'.out, Int.toNat_natCast] at hlk1
            obtain ⟨lk, hlke⟩ : ∃ x : Nat, lnkT (layT f ds) f ds (k + 1) = x := ⟨(lnkT (layT f ds) f ds (k + 1)).toNat, by omega⟩
            rw [hlke] at hlk1 hLs' hnq'
            rw [Int.toNat_natCast] at hlk1 hnq'
            have hqt := (Below.refl w11.heap.size w11).drew
            obtain ⟨Ty, ff, hne, hcl, hsurj⟩ := pred_worlds (fun W => Below w.heap.size w W ∧ Blk W w.heap.size 24 #[.int .i64 o, .slice (some ⟨xb, xo, none⟩) sn sc] ∧ Below w6.heap.size w6 W) w11 ⟨hbr11'.out, bA11'.out, hbk11'.out⟩
            have hbrE := hbr11'.out.trans (hqt.mono hbr11'.out.size)
            have bAE := bA11'.out.late hqt
            have hbkE := hbk11'.out.trans (hqt.mono hbk11'.out.size)
            have hoE := own_later ho12'.out hqt
            have HS := Lib.hid (hsurj w11.drew ⟨hbrE, bAE, hbkE⟩)
            have p0 : ∀ s, (ff s).cell? ⟨w.heap.size, 0, none⟩ = some (.int .i64 o) := fun s => (hcl s).2.1.cell rfl
            have p1 : ∀ s, (ff s).cell? ⟨w.heap.size, 1, none⟩ = some (.slice (some ⟨xb, xo, none⟩) sn sc) := fun s => (hcl s).2.1.cell rfl
            have p2 : ∀ s, (ff s).cell? ⟨xb, xo + k * 3, none⟩ = some (.slice ua un uc) := fun s => late (hcl s).1 hxlt g0
            have p3 : ∀ s, (ff s).cell? ⟨xb, xo + k * 3 + 1, none⟩ = some (.slice ra rn rc) := fun s => late (hcl s).1 hxlt g1
            have p4 : ∀ s, (ff s).cell? ⟨xb, xo + k * 3 + 2, none⟩ = some (.slice ya yn yc) := fun s => late (hcl s).1 hxlt g2
            obtain ⟨wE, hwE⟩ : ∃ wE, w11.drew = wE := ⟨_, rfl⟩
            rw [hwE] at HS hbrE bAE hbkE hoE
            obtain ⟨at_, hat⟩ : ∃ x, atS (layT f ds) 2 ns 0 = x := ⟨_, rfl⟩
            obtain ⟨at2, hat2⟩ : ∃ x, atS (layT f ds) 2 n2 0 = x := ⟨_, rfl⟩
            rw [hat] at hLs'
            rw [hat2] at hpk1 hnq'
            have hA1 := rat_any spa spn spc (layT f ds) 2 ns 0 wE (hsp6'.out.mono hbkE)
            rw [hat] at hA1
            have hA2 := fun W (h : Below w6.heap.size w6 W) => rat_any spa spn spc (layT f ds) 2 n2 0 W (hsp6'.out.mono h)
            simp only [hat2] at hA2
            have hE := fun W => rent_any ua ra ya un uc rn rc yn yc W (by omega) (by omega)
            obtain ⟨ne, hne2⟩ : ∃ x, entN un rn yn = x := ⟨_, rfl⟩
            have hnel : ne ≤ 68 := by rw [← hne2]; exact entN_le he1 he2
            rw [hne2] at hLs'
            simp only [hne2] at hE
            have hLz := hLs'.out
            have hw2 : IntKind.i64.wrap (at_ + 2) = at_ + 2 := by rw [IntKind.wrap_i64]; omega
            have hw3 : IntKind.i64.wrap (12 * (ne : Int)) = 12 * ne := by rw [IntKind.wrap_i64]; omega
            have hw4 : IntKind.i64.wrap (at_ + 2 + 12 * (ne : Int)) = (lk : Int) := by rw [IntKind.wrap_i64]; omega
            clear hLz
            have hlk1' := Lib.hid hlk1
            have hpk1' := Lib.hid hpk1
            have hqt' := Lib.hid hqt
            have hcl' := Lib.hid hcl
            have hsurj' := Lib.hid hsurj
            have hbrE' := Lib.hid hbrE
            have bAE' := Lib.hid bAE
            have hbkE' := Lib.hid hbkE
            have hoE' := Lib.hid hoE
            have hat' := Lib.hid hat
            have hat2' := Lib.hid hat2
            have hA1' := Lib.hid hA1
            have hA2' := Lib.hid hA2
            have hE' := Lib.hid hE
            have hne2' := Lib.hid hne2
            have hlke' := Lib.hid hlke
            clear hlk1 hpk1 hqt hcl hsurj hbrE bAE hbkE hoE hat hat2 hA1 hA2 hE hne2 hlke
            go_wp2_with fail
            clear q1
            refine held_begin (S := fun W => ∃ s, W = ff s) (by kernel_rfl) 20 rfl ?_
            rw [hwE]
            refine held_take [0, 1, 2, 5, 6, 7, 8, 9, 13, 14, 16, 17] 8 (by kernel_rfl) (fun d _ _ _ _ h => by cases d <;> exact h) (by kernel_rfl) (by kernel_rfl) (by kernel_rfl) HS.out ?_
            simp only [pickL, List.map_cons, List.map_nil, List.getD_cons_succ, List.getD_cons_zero]
            iterate 12 (go_big_quiet_step (fail))
            refine wpQuiet_nil ?_
            clear p0 p1 p2 p3 p4 hwE
            refine held_one 3 7 (by kernel_rfl) (by kernel_rfl) ?_
            simp only [pickL, List.map_cons, List.map_nil, List.getD_cons_succ, List.getD_cons_zero]
            go_wp2_with fail
            refine hA1'.out.mono ?_
            rintro e w13 ⟨rfl, hb13⟩
            have hbr13 := hbrE'.out.trans (hb13.mono hbrE'.out.size)
            have bA13 := bAE'.out.late hb13
            have hbk13 := hbkE'.out.trans (hb13.mono hbkE'.out.size)
            have ho13 := own_later hoE'.out hb13
            have HS := Lib.hid (hsurj'.out _ ⟨hbr13, bA13, hbk13⟩)
            have hb13' := Lib.hid hb13
            have hbr13' := Lib.hid hbr13
            have bA13' := Lib.hid bA13
            have hbk13' := Lib.hid hbk13
            have ho13' := Lib.hid ho13
            clear hb13 hbr13 bA13 hbk13 ho13
            go_wp2_with fail
            first | refine Mid.mk ⟨HS.out, ?_⟩ | refine Mid.mk ?_
            refine held_take [4] 6 (by kernel_rfl) (fun d _ _ _ _ h => by cases d <;> exact h) (by kernel_rfl) (by kernel_rfl) (by kernel_rfl) HS.out ?_
            simp only [pickL, List.map_cons, List.map_nil, List.getD_cons_succ, List.getD_cons_zero]
            iterate 1 (go_big_quiet_step (fail))
            refine wpQuiet_nil ?_
            refine held_one 10 5 (by kernel_rfl) (by kernel_rfl) ?_
            simp only [pickL, List.map_cons, List.map_nil, List.getD_cons_succ, List.getD_cons_zero]
            go_wp2_with fail
            refine (hE'.out _).mono ?_
            rintro e w14 ⟨rfl, hb14⟩
            have hbr14 := hbr13'.out.trans (hb14.mono hbr13'.out.size)
            have bA14 := bA13'.out.late hb14
            have hbk14 := hbk13'.out.trans (hb14.mono hbk13'.out.size)
            have ho14 := own_later ho13'.out hb14
            have HS := Lib.hid (hsurj'.out _ ⟨hbr14, bA14, hbk14⟩)
            have hb14' := Lib.hid hb14
            have hbr14' := Lib.hid hbr14
            have bA14' := Lib.hid bA14
            have hbk14' := Lib.hid hbk14
            have ho14' := Lib.hid ho14
            clear hb14 hbr14 bA14 hbk14 ho14
            go_wp2_with fail
            first | refine Mid.mk ⟨HS.out, ?_⟩ | refine Mid.mk ?_
            refine held_take [11, 12] 3 (by kernel_rfl) (fun d _ _ _ _ h => by cases d <;> exact h) (by kernel_rfl) (by kernel_rfl) (by kernel_rfl) HS.out ?_
            simp only [pickL, List.map_cons, List.map_nil, List.getD_cons_succ, List.getD_cons_zero]
            iterate 2 (go_big_quiet_step (fail))
            refine wpQuiet_nil ?_
            refine held_one 15 2 (by kernel_rfl) (by kernel_rfl) ?_
            simp only [pickL, List.map_cons, List.map_nil, List.getD_cons_succ, List.getD_cons_zero]
            go_wp2_with fail
            refine (hA2'.out _ hbk14'.out).mono ?_
            rintro e w15 ⟨rfl, hb15⟩
            have hbr15 := hbr14'.out.trans (hb15.mono hbr14'.out.size)
            have bA15 := bA14'.out.late hb15
            have hbk15 := hbk14'.out.trans (hb15.mono hbk14'.out.size)
            have ho15 := own_later ho14'.out hb15
            have HS := Lib.hid (hsurj'.out _ ⟨hbr15, bA15, hbk15⟩)
            have hNn := number_any a11 m c11 _ lk at2 4 o w15 (Sl.of_own ho15).1 (by omega) hpk1'.out (by rw [show (4 : Int).toNat = 4 from rfl]; have := hlk1'.out; omega)
            have hb15' := Lib.hid hb15
            have hbr15' := Lib.hid hbr15
            have bA15' := Lib.hid bA15
            have hbk15' := Lib.hid hbk15
            have ho15' := Lib.hid ho15
            have hNn' := Lib.hid hNn
            clear hb15 hbr15 bA15 hbk15 ho15 hNn
            go_wp2_with fail
            first | refine Mid.mk ⟨HS.out, ?_⟩ | refine Mid.mk ?_
            refine held_one 18 1 (by kernel_rfl) (by kernel_rfl) ?_
            simp only [pickL, List.map_cons, List.map_nil, List.getD_cons_succ, List.getD_cons_zero]
            go_wp2_with fail
            refine hNn'.out.mono ?_
            rintro e w16 ⟨a16, c16, rfl, ho16, hb16⟩
            have hbr16 := hbr15'.out.trans (hb16.mono hbr15'.out.size)
            have bA16 := bA15'.out.late hb16
            have hbk16 := hbk15'.out.trans (hb16.mono hbk15'.out.size)
            have ho17 := own_mono ho16 (show w.heap.size ≤ w15.heap.size from hbr15'.out.size)
            have ho18 : w16.ownsRow w.heap.size 5 1 (.slice a16 m c16) m (ints .u8 (apP (chQ (shps zs) (layT f ds) o f ds (k + 1)) P3)) := by
              rw [hCs'.out, hnq'.out, ← List.append_assoc, apP_append]
              exact ho17
            have HS := Lib.hid (hsurj'.out _ ⟨hbr16, bA16, hbk16⟩)
            have hb16' := Lib.hid hb16
            have hbr16' := Lib.hid hbr16
            have bA16' := Lib.hid bA16
            have hbk16' := Lib.hid hbk16
            have ho16' := Lib.hid ho16
            have ho17' := Lib.hid ho17
            have ho18' := Lib.hid ho18
            clear hb16 hbr16 bA16 hbk16 ho16 ho17 ho18
            go_wp2_with fail
            first | refine Mid.mk ⟨HS.out, ?_⟩ | refine Mid.mk ?_
            refine held_take [19] 0 (by kernel_rfl) (fun d _ _ _ _ h => by cases d <;> exact h) (by kernel_rfl) (by kernel_rfl) (by kernel_rfl) HS.out ?_
            simp only [pickL, List.map_cons, List.map_nil, List.getD_cons_succ, List.getD_cons_zero]
            iterate 1 (go_big_quiet_step (fail))
            refine wpQuiet_nil ?_
            refine held_last (by kernel_rfl) ?_
            obtain ⟨b3, o3, ha3, hblt3, fe⟩ := hz6'.out.row.elem shc_len (by decide) shz0 (show ik < n by omega)
            subst ha3
            rw [Int.toNat_natCast, shps_get (by rw [hz6'.out.len]; omega)] at hXs'
            have l3 := late hbk16'.out hblt3 (fe 3 _ rfl)
            rw [← hXs'.out] at l3
            clear fe
            obtain ⟨xs, hxs⟩ : ∃ x, nxtS (shps zs) (k + 1) = x := ⟨_, rfl⟩
            rw [hxs] at l3
            have hxs' := Lib.hid hxs
            clear hxs
            go_wp2_with fail
            go_roundw
            case rel => exact ⟨k + 1, a16, c16, by omega, rfl, by go_num, by rw [hn2'.out], by rw [hxs'.out], ho18', hbk16'⟩
            case measure => simp [intOf]; omega
          · have e1 : decide ((k : Int) + 1 < (sn : Int)) = false := by simp; omega
            have hl2 : ¬ k + 1 < ds.length := by rw [hdn'.out]; exact hl1
            rw [if_neg hl2] at hnq'
            obtain ⟨b3, o3, ha3, hblt3, fe⟩ := hz6'.out.row.elem shc_len (by decide) shz0 (show ik < n by omega)
            subst ha3
            rw [Int.toNat_natCast, shps_get (by rw [hz6'.out.len]; omega)] at hXs'
            have l3 := late hbk11'.out hblt3 (fe 3 _ rfl)
            rw [← hXs'.out] at l3
            clear fe
            obtain ⟨xs, hxs⟩ : ∃ x, nxtS (shps zs) (k + 1) = x := ⟨_, rfl⟩
            rw [hxs] at l3
            have ho18 : w11.ownsRow w.heap.size 5 1 (.slice a11 m c11) m (ints .u8 (apP (chQ (shps zs) (layT f ds) o f ds (k + 1)) P3)) := by
              rw [hCs'.out, hnq'.out, List.append_nil]
              exact ho12'.out
            have hxs' := Lib.hid hxs
            have ho18' := Lib.hid ho18
            clear hxs ho18
            go_wp2_with fail
            go_roundw
            case rel => exact ⟨k + 1, a11, c11, by omega, rfl, by go_num, by rw [hn2'.out], by rw [hxs'.out], ho18', hbk11'⟩
            case measure => simp [intOf]; omega
        · obtain rfl : k = sn := by omega
          rw [← hdn'.out, ← hWB'.out] at hown
          have hbr' := Lib.hid hbr
          have bAr' := Lib.hid bAr
          clear hbr bAr
          go_wp2_with fail
          refine bodyPost_ret (results_tmp2 rfl _ _ _) rfl ?_
          exact ⟨_, _, _, rfl, hown.out, hbr'.out⟩
    · have e1 : (o == 2) = false := by simp [ho2]
      have hbx := (Below.refl w6.heap.size w6).alloc (Nat.le_refl _) (.cells #[.int .u8 73, .int .u8 73] 5)
      have c0 : w6.cell? ⟨w.heap.size, 0, none⟩ = some (.int .i64 o) := bA6.cell rfl
      have hsgn : Sl (w6.alloc (.cells #[.int .u8 73, .int .u8 73] 5)) (some ⟨w6.heap.size, 0, none⟩) 2 2 1 (ints .u8 (signB o)) := by
        have := Sl.new w6 5 1 2 #[.int .u8 73, .int .u8 73] (0, 0) (by omega) rfl
        unfold signB
        rw [if_neg ho2]
        exact this
      obtain ⟨W7, hW7⟩ : ∃ W7, w6.alloc (.cells #[.int .u8 73, .int .u8 73] 5) = W7 := ⟨_, rfl⟩
      rw [hW7] at hbx hsgn
      have bAx := bA6.late hbx
      have hZ := hZ6.mono hbx
      have hb5' := Lib.hid hb5
      have bA6' := Lib.hid bA6
      have hbw6' := Lib.hid hbw6
      have hsp6' := Lib.hid hsp6
      have hg5' := Lib.hid hg5
      have hz6' := Lib.hid hz6
      have hdl' := Lib.hid hdl
      have hsl' := Lib.hid hsl
      have hsub' := Lib.hid hsub
      have hdn' := Lib.hid hdn
      have hzl' := Lib.hid hzl
      have hp42' := Lib.hid hp42
      have hp8' := Lib.hid hp8
      have R5' := Lib.hid R5
      have hZ6' := Lib.hid hZ6
      have hW7' := Lib.hid hW7
      have hbx' := Lib.hid hbx
      have bAx' := Lib.hid bAx
      have hZ' := Lib.hid hZ
      have hsgn' := Lib.hid hsgn
      have ho2' := Lib.hid ho2
      clear hb5 bA6 hbw6 hsp6 hg5 hz6 hdl hsl hsub hdn hzl hp42 hp8 R5 hZ6 hW7 hbx bAx hZ hsgn ho2
      go_upto_region 9 with fail
      clear c0
      try rw [hW7'.out]
      have hov := over_any (some ⟨g5, 0, none⟩) m m (List.replicate m 0) 0 (some ⟨w6.heap.size, 0, none⟩) 2 2 (signB o) W7 hZ'.out hsgn'.out (by omega) (by omega)
      have q0 : W7.cell? ⟨w.heap.size, 0, none⟩ = some (.int .i64 o) := bAx'.out.cell rfl
      have hov' := Lib.hid hov
      clear hov
      go_wp2_with fail
      refine hov'.out.mono ?_
      rintro e w8 ⟨a8, c8, rfl, ho8, hb8⟩
      have hb68 := hbx'.out.trans (hb8.mono hbx'.out.size)
      have bA8 := bAx'.out.late hb8
      have hN1 := number_any a8 m c8 _ 2 42 2 o w8 (Sl.of_own ho8).1 (by omega) hp42'.out (by rw [show (2 : Int).toNat = 2 from rfl]; omega)
      clear q0
      have q0 : w8.cell? ⟨w.heap.size, 0, none⟩ = some (.int .i64 o) := bA8.cell rfl
      have ho8' := Lib.hid ho8
      have hb8' := Lib.hid hb8
      have hb68' := Lib.hid hb68
      have bA8' := Lib.hid bA8
      have hN1' := Lib.hid hN1
      clear ho8 hb8 hb68 bA8 hN1
      go_wp2_with fail
      refine hN1'.out.mono ?_
      rintro e w9 ⟨a9, c9, rfl, ho9, hb9⟩
      have hb69 := hb68'.out.trans (hb9.mono hb68'.out.size)
      have bA9 := bA8'.out.late hb9
      have hN2 := number_any a9 m c9 _ 4 8 4 o w9 (Sl.of_own ho9).1 (by omega) hp8'.out (by rw [show (4 : Int).toNat = 4 from rfl]; omega)
      clear q0
      have q0 : w9.cell? ⟨w.heap.size, 0, none⟩ = some (.int .i64 o) := bA9.cell rfl
      have ho9' := Lib.hid ho9
      have hb9' := Lib.hid hb9
      have hb69' := Lib.hid hb69
      have bA9' := Lib.hid bA9
      have hN2' := Lib.hid hN2
      clear ho9 hb9 hb69 bA9 hN2
      go_wp2_with fail
      refine hN2'.out.mono ?_
      rintro e w10 ⟨a10, c10, rfl, ho10, hb10⟩
      have hb610 := hb69'.out.trans (hb10.mono hb69'.out.size)
      have bA10 := bA9'.out.late hb10
      clear q0
      obtain ⟨P3, hP3⟩ : ∃ P3, splice (splice (splice (List.replicate m 0) 0 (signB o)) 2 (putS 42 2 o)) 4 (putS 8 4 o) = P3 := ⟨_, rfl⟩
      rw [hP3] at ho10
      have ho10 := own_mono ho10 (show w.heap.size ≤ w9.heap.size from Nat.le_trans hbw6'.out.size hb69'.out.size)
      have hWB : WB = apP (chQ (shps zs) (layT f ds) o f ds ds.length) P3 := by
        rw [hwr'.out, treeW_Q hR'.out hby'.out, hm'.out, Int.toNat_natCast, ← hP3]; rfl
      have ho10' := Lib.hid ho10
      have hb10' := Lib.hid hb10
      have hb610' := Lib.hid hb610
      have bA10' := Lib.hid bA10
      have hP3' := Lib.hid hP3
      have hWB' := Lib.hid hWB
      clear ho10 hb10 hb610 bA10 hP3 hWB
      go_wp2_with fail
      go_loopw [9, 11, 12, 13] (fun bv nv sv iv wr => ∃ (k : Nat) (a : Option Addr) (c : Nat), k ≤ sn ∧ bv = .slice a m c ∧ iv = .int .i64 k ∧ nv = .int .i64 (noT f ds k) ∧ sv = .int .i64 (nxtS (shps zs) k) ∧ Hid (wr.ownsRow w.heap.size 5 1 (.slice a m c) m (ints .u8 (apP (chQ (shps zs) (layT f ds) o f ds k) P3))) ∧ Hid (Below w6.heap.size w6 wr)) (fun _ _ _ iv _ => sn - (intOf iv).toNat)
      case atStart =>
        exact ⟨0, a10, c10, by omega, rfl, rfl, by simp [noT, flatT], rfl, ho10', hb610'⟩
      case round =>
        obtain ⟨k, ak, ck, hk, rfl, rfl, rfl, rfl, hown, hbk⟩ := hrel
        have hbr := hbw6'.out.trans (hbk.out.mono hbw6'.out.size)
        have bAr := bA6'.out.late hbk.out
        have q1 : wr.cell? ⟨w.heap.size, 1, none⟩ = some (.slice sa sn sc) := bAr.cell rfl
        by_cases hlt : k < sn
        · have hil : (k : Int) < (sn : Int) := by omega
          have hw1 : IntKind.i64.wrap ((k : Int) + 1) = k + 1 := by rw [IntKind.wrap_i64]; omega
          have hid : k < ds.length := by rw [hdn'.out]; exact hlt
          have hids : k < dvs.length := by rw [hdl'.out]; exact hid
          obtain ⟨xb, xo, rfl, hxlt, fe⟩ := hsl'.out.elem dvC_len (by decide) dzz hlt
          rw [getD_el hids] at fe
          have hq2 := hsub'.out k hids hid
          obtain ⟨ua, un, uc, ra, rn, rc, ya, yn, yc, hv⟩ := hq2.v
          have g0 := fe 0 _ rfl
          have g1 := fe 1 _ rfl
          have g2 := fe 2 _ rfl
          clear fe
          rw [hv] at hq2 g0 g1 g2
          simp only [Nat.add_zero] at g0 g1 g2
          have hgi : ds.getD k (dirZ f) = ds[k] := getD_el hid _
          have hsm := hs'.out _ (List.getElem_mem hid)
          have hbd := hby'.out _ (List.getElem_mem hid)
          have hnx := hO'.out.nx k hid
          have hdk := hO'.out.dir k hid
          have hhk := hasAll_get hAll'.out hid
          rw [hm'.out, Int.toNat_natCast] at hdk
          have hnl := nxt_lt hO'.out.shp k
          rw [hzl'.out] at hnl
          have hNs := noT_step f ds hid
          have hNl := noT_le f ds k
          have hNl2 := noT_le f ds (k + 1)
          have hNN := hN'.out
          have hCs := chQ_step (shps zs) (layT f ds) o f ds k
          have hLs : lnkT (layT f ds) f ds (k + 1) = atS (layT f ds) 2 (noT f ds k) 0 + 2 + 12 * (entD f (ds.getD k (dirZ f)) : Nat) := rfl
          have hXs : nxtS (shps zs) (k + 1) = ((shps zs).getD (nxtS (shps zs) k).toNat shp0).2.2.2 := rfl
          obtain ⟨hen, he1, he2, he3⟩ := dirR_ent hq2 hsm
          rw [hgi] at hdk hNs hCs hLs hhk
          obtain ⟨ik, hik⟩ : ∃ x : Nat, nxtS (shps zs) k = x := ⟨(nxtS (shps zs) k).toNat, by omega⟩
          rw [hik] at hdk hnl hCs hXs hhk
          have hlk := hO'.out.lnk (k + 1)
          have hpk2 := hO'.out.pk (k + 1)
          obtain ⟨ns, hns⟩ : ∃ x, noT f ds k = x := ⟨_, rfl⟩
          rw [hns] at hdk hNs hNl hCs hLs
          obtain ⟨n2, hn2⟩ : ∃ x, noT f ds (k + 1) = x := ⟨_, rfl⟩
          rw [hn2] at hNs hNl2 hpk2
          have hnq : nextQ (layT f ds) o f ds k = if k + 1 < ds.length then [((lnkT (layT f ds) f ds (k + 1)).toNat, putS (atS (layT f ds) 2 n2 0) 4 o)] else [] := by
            unfold nextQ linkP2; rw [hn2]
          obtain ⟨dd, hdd⟩ : ∃ dd, ds[k] = dd := ⟨_, rfl⟩
          rw [hdd] at hq2 hsm hbd hdk hNs hCs hLs hhk hen
          rw [hen] at hLs
          have hin : (ik : Int) < (n : Int) := by omega
          have hik0 : (0 : Int) ≤ (ik : Int) := by omega
          have hbl : Below w.heap.size w wr ∧ Blk wr w.heap.size 24 #[.int .i64 o, .slice (some ⟨xb, xo, none⟩) sn sc] ∧ Below w6.heap.size w6 wr := ⟨hbr, bAr, hbk.out⟩
          have hqt := (Below.refl wr.heap.size wr).drew
          obtain ⟨Ty, ff, hne, hcl, hsurj⟩ := pred_worlds (fun W => Below w.heap.size w W ∧ Blk W w.heap.size 24 #[.int .i64 o, .slice (some ⟨xb, xo, none⟩) sn sc] ∧ Below w6.heap.size w6 W) wr hbl
          have hbrD := hbr.trans (hqt.mono hbr.size)
          have bArD := bAr.late hqt
          have hbkD := hbk.out.trans (hqt.mono hbk.out.size)
          have hownD := own_later hown.out hqt
          have HS := Lib.hid (hsurj wr.drew ⟨hbrD, bArD, hbkD⟩)
          have p0 : ∀ s, (ff s).cell? ⟨w.heap.size, 0, none⟩ = some (.int .i64 o) := fun s => (hcl s).2.1.cell rfl
          have p1 : ∀ s, (ff s).cell? ⟨w.heap.size, 1, none⟩ = some (.slice (some ⟨xb, xo, none⟩) sn sc) := fun s => (hcl s).2.1.cell rfl
          have p2 : ∀ s, (ff s).cell? ⟨xb, xo + k * 3, none⟩ = some (.slice ua un uc) := fun s => late (hcl s).1 hxlt g0
          have p3 : ∀ s, (ff s).cell? ⟨xb, xo + k * 3 + 1, none⟩ = some (.slice ra rn rc) := fun s => late (hcl s).1 hxlt g1
          have p4 : ∀ s, (ff s).cell? ⟨xb, xo + k * 3 + 2, none⟩ = some (.slice ya yn yc) := fun s => late (hcl s).1 hxlt g2
          obtain ⟨wD, hwD⟩ : ∃ wD, wr.drew = wD := ⟨_, rfl⟩
          rw [hwD] at HS hbrD bArD hbkD hownD
          have hI := rwrt_any zs a n c spa spn spc (layT f ds) m o f w6 wD ak ck _ dd (.slice ua un uc, .slice ra rn rc, .slice ya yn yc) ns ik (Sl.of_own hownD).1 hbkD hsp6'.out hz6'.out (hq2.mono hbw6'.out) hsm hbd hO'.out.shp hhk hdk (by omega) (by omega) (by omega) (by omega)
          simp only at hI
          rw [← hNs, ← apP_append] at hI
          have hbr' := Lib.hid hbr
          have bAr' := Lib.hid bAr
          have hq2' := Lib.hid hq2
          have hv' := Lib.hid hv
          have hgi' := Lib.hid hgi
          have hsm' := Lib.hid hsm
          have hbd' := Lib.hid hbd
          have hdk' := Lib.hid hdk
          have hhk' := Lib.hid hhk
          have hNs' := Lib.hid hNs
          have hCs' := Lib.hid hCs
          have hLs' := Lib.hid hLs
          have hXs' := Lib.hid hXs
          have hen' := Lib.hid hen
          have hns' := Lib.hid hns
          have hik' := Lib.hid hik
          have hdd' := Lib.hid hdd
          have hbl' := Lib.hid hbl
          have hqt' := Lib.hid hqt
          have hcl' := Lib.hid hcl
          have hsurj' := Lib.hid hsurj
          have hbrD' := Lib.hid hbrD
          have bArD' := Lib.hid bArD
          have hbkD' := Lib.hid hbkD
          have hownD' := Lib.hid hownD
          have hI' := Lib.hid hI
          have hnq' := Lib.hid hnq
          have hpk2' := Lib.hid hpk2
          have hlk' := Lib.hid hlk
          have hn2' := Lib.hid hn2
          clear hbr bAr hq2 hv hgi hsm hbd hdk hhk hNs hCs hLs hXs hen hns hik hdd hbl hqt hcl hsurj hbrD bArD hbkD hownD hI hnq hpk2 hlk hn2
          rw [hns'.out, hik'.out]
          go_wp2_with fail
          clear q1
          refine held_begin (S := fun W => ∃ s, W = ff s) (by kernel_rfl) 18 rfl ?_
          rw [hwD]
          refine held_take [0, 1, 2, 3, 4, 5, 6, 7, 8, 9, 10, 11] 6 (by kernel_rfl) (fun d _ _ _ _ h => by cases d <;> exact h) (by kernel_rfl) (by kernel_rfl) (by kernel_rfl) HS.out ?_
          simp only [pickL, List.map_cons, List.map_nil, List.getD_cons_succ, List.getD_cons_zero]
          iterate 12 (go_big_quiet_step (fail))
          refine wpQuiet_nil ?_
          clear p0 p1 p2 p3 p4 hwD
          refine held_one 12 5 (by kernel_rfl) (by kernel_rfl) ?_
          simp only [pickL, List.map_cons, List.map_nil, List.getD_cons_succ, List.getD_cons_zero]
          go_wp2_with fail
          refine hI'.out.mono ?_
          rintro e w11 ⟨a11, c11, rfl, ho11, hb11⟩
          have hbr11 := hbrD'.out.trans (hb11.mono hbrD'.out.size)
          have bA11 := bArD'.out.late hb11
          have hbk11 := hbkD'.out.trans (hb11.mono hbkD'.out.size)
          have ho12 := own_mono ho11 (show w.heap.size ≤ wD.heap.size from hbrD'.out.size)
          have HS := Lib.hid (hsurj'.out _ ⟨hbr11, bA11, hbk11⟩)
          have hb11' := Lib.hid hb11
          have ho11' := Lib.hid ho11
          have hbr11' := Lib.hid hbr11
          have bA11' := Lib.hid bA11
          have hbk11' := Lib.hid hbk11
          have ho12' := Lib.hid ho12
          clear hb11 ho11 hbr11 bA11 hbk11 ho12
          go_wp2_with fail
          first | refine Mid.mk ⟨HS.out, ?_⟩ | refine Mid.mk ?_
          refine held_take [13, 14, 15, 16, 17] 0 (by kernel_rfl) (fun d _ _ _ _ h => by cases d <;> exact h) (by kernel_rfl) (by kernel_rfl) (by kernel_rfl) HS.out ?_
          simp only [pickL, List.map_cons, List.map_nil, List.getD_cons_succ, List.getD_cons_zero]
          iterate 5 (go_big_quiet_step (fail))
          refine wpQuiet_nil ?_
          refine held_last (by kernel_rfl) ?_
          have q1 : w11.cell? ⟨w.heap.size, 1, none⟩ = some (.slice (some ⟨xb, xo, none⟩) sn sc) := bA11'.out.cell rfl
          clear HS hbl' hcl' hsurj'
          by_cases hl1 : k + 1 < sn
          · have e1 : decide ((k : Int) + 1 < (sn : Int)) = true := by simp; omega
            have hl2 : k + 1 < ds.length := by rw [hdn'.out]; exact hl1
            have hlk1 := hlk'.out hl2
            have hpk1 := hpk2'.out hl2
            rw [if_pos hl2] at hnq'
            rw [hm'.out, Int.toNat_natCast] at hlk1
            obtain ⟨lk, hlke⟩ : ∃ x : Nat, lnkT (layT f ds) f ds (k + 1) = x := ⟨(lnkT (layT f ds) f ds (k + 1)).toNat, by omega⟩
            rw [hlke] at hlk1 hLs' hnq'
            rw [Int.toNat_natCast] at hlk1 hnq'
            have hqt := (Below.refl w11.heap.size w11).drew
            obtain ⟨Ty, ff, hne, hcl, hsurj⟩ := pred_worlds (fun W => Below w.heap.size w W ∧ Blk W w.heap.size 24 #[.int .i64 o, .slice (some ⟨xb, xo, none⟩) sn sc] ∧ Below w6.heap.size w6 W) w11 ⟨hbr11'.out, bA11'.out, hbk11'.out⟩
            have hbrE := hbr11'.out.trans (hqt.mono hbr11'.out.size)
            have bAE := bA11'.out.late hqt
            have hbkE := hbk11'.out.trans (hqt.mono hbk11'.out.size)
            have hoE := own_later ho12'.out hqt
            have HS := Lib.hid (hsurj w11.drew ⟨hbrE, bAE, hbkE⟩)
            have p0 : ∀ s, (ff s).cell? ⟨w.heap.size, 0, none⟩ = some (.int .i64 o) := fun s => (hcl s).2.1.cell rfl
            have p1 : ∀ s, (ff s).cell? ⟨w.heap.size, 1, none⟩ = some (.slice (some ⟨xb, xo, none⟩) sn sc) := fun s => (hcl s).2.1.cell rfl
            have p2 : ∀ s, (ff s).cell? ⟨xb, xo + k * 3, none⟩ = some (.slice ua un uc) := fun s => late (hcl s).1 hxlt g0
            have p3 : ∀ s, (ff s).cell? ⟨xb, xo + k * 3 + 1, none⟩ = some (.slice ra rn rc) := fun s => late (hcl s).1 hxlt g1
            have p4 : ∀ s, (ff s).cell? ⟨xb, xo + k * 3 + 2, none⟩ = some (.slice ya yn yc) := fun s => late (hcl s).1 hxlt g2
            obtain ⟨wE, hwE⟩ : ∃ wE, w11.drew = wE := ⟨_, rfl⟩
            rw [hwE] at HS hbrE bAE hbkE hoE
            obtain ⟨at_, hat⟩ : ∃ x, atS (layT f ds) 2 ns 0 = x := ⟨_, rfl⟩
            obtain ⟨at2, hat2⟩ : ∃ x, atS (layT f ds) 2 n2 0 = x := ⟨_, rfl⟩
            rw [hat] at hLs'
            rw [hat2] at hpk1 hnq'
            have hA1 := rat_any spa spn spc (layT f ds) 2 ns 0 wE (hsp6'.out.mono hbkE)
            rw [hat] at hA1
            have hA2 := fun W (h : Below w6.heap.size w6 W) => rat_any spa spn spc (layT f ds) 2 n2 0 W (hsp6'.out.mono h)
            simp only [hat2] at hA2
            have hE := fun W => rent_any ua ra ya un uc rn rc yn yc W (by omega) (by omega)
            obtain ⟨ne, hne2⟩ : ∃ x, entN un rn yn = x := ⟨_, rfl⟩
            have hnel : ne ≤ 68 := by rw [← hne2]; exact entN_le he1 he2
            rw [hne2] at hLs'
            simp only [hne2] at hE
            have hLz := hLs'.out
            have hw2 : IntKind.i64.wrap (at_ + 2) = at_ + 2 := by rw [IntKind.wrap_i64]; omega
            have hw3 : IntKind.i64.wrap (12 * (ne : Int)) = 12 * ne := by rw [IntKind.wrap_i64]; omega
            have hw4 : IntKind.i64.wrap (at_ + 2 + 12 * (ne : Int)) = (lk : Int) := by rw [IntKind.wrap_i64]; omega
            clear hLz
            have hlk1' := Lib.hid hlk1
            have hpk1' := Lib.hid hpk1
            have hqt' := Lib.hid hqt
            have hcl' := Lib.hid hcl
            have hsurj' := Lib.hid hsurj
            have hbrE' := Lib.hid hbrE
            have bAE' := Lib.hid bAE
            have hbkE' := Lib.hid hbkE
            have hoE' := Lib.hid hoE
            have hat' := Lib.hid hat
            have hat2' := Lib.hid hat2
            have hA1' := Lib.hid hA1
            have hA2' := Lib.hid hA2
            have hE' := Lib.hid hE
            have hne2' := Lib.hid hne2
            have hlke' := Lib.hid hlke
            clear hlk1 hpk1 hqt hcl hsurj hbrE bAE hbkE hoE hat hat2 hA1 hA2 hE hne2 hlke
            go_wp2_with fail
            clear q1
            refine held_begin (S := fun W => ∃ s, W = ff s) (by kernel_rfl) 20 rfl ?_
            rw [hwE]
            refine held_take [0, 1, 2, 5, 6, 7, 8, 9, 13, 14, 16, 17] 8 (by kernel_rfl) (fun d _ _ _ _ h => by cases d <;> exact h) (by kernel_rfl) (by kernel_rfl) (by kernel_rfl) HS.out ?_
            simp only [pickL, List.map_cons, List.map_nil, List.getD_cons_succ, List.getD_cons_zero]
            iterate 12 (go_big_quiet_step (fail))
            refine wpQuiet_nil ?_
            clear p0 p1 p2 p3 p4 hwE
            refine held_one 3 7 (by kernel_rfl) (by kernel_rfl) ?_
            simp only [pickL, List.map_cons, List.map_nil, List.getD_cons_succ, List.getD_cons_zero]
            go_wp2_with fail
            refine hA1'.out.mono ?_
            rintro e w13 ⟨rfl, hb13⟩
            have hbr13 := hbrE'.out.trans (hb13.mono hbrE'.out.size)
            have bA13 := bAE'.out.late hb13
            have hbk13 := hbkE'.out.trans (hb13.mono hbkE'.out.size)
            have ho13 := own_later hoE'.out hb13
            have HS := Lib.hid (hsurj'.out _ ⟨hbr13, bA13, hbk13⟩)
            have hb13' := Lib.hid hb13
            have hbr13' := Lib.hid hbr13
            have bA13' := Lib.hid bA13
            have hbk13' := Lib.hid hbk13
            have ho13' := Lib.hid ho13
            clear hb13 hbr13 bA13 hbk13 ho13
            go_wp2_with fail
            first | refine Mid.mk ⟨HS.out, ?_⟩ | refine Mid.mk ?_
            refine held_take [4] 6 (by kernel_rfl) (fun d _ _ _ _ h => by cases d <;> exact h) (by kernel_rfl) (by kernel_rfl) (by kernel_rfl) HS.out ?_
            simp only [pickL, List.map_cons, List.map_nil, List.getD_cons_succ, List.getD_cons_zero]
            iterate 1 (go_big_quiet_step (fail))
            refine wpQuiet_nil ?_
            refine held_one 10 5 (by kernel_rfl) (by kernel_rfl) ?_
            simp only [pickL, List.map_cons, List.map_nil, List.getD_cons_succ, List.getD_cons_zero]
            go_wp2_with fail
            refine (hE'.out _).mono ?_
            rintro e w14 ⟨rfl, hb14⟩
            have hbr14 := hbr13'.out.trans (hb14.mono hbr13'.out.size)
            have bA14 := bA13'.out.late hb14
            have hbk14 := hbk13'.out.trans (hb14.mono hbk13'.out.size)
            have ho14 := own_later ho13'.out hb14
            have HS := Lib.hid (hsurj'.out _ ⟨hbr14, bA14, hbk14⟩)
            have hb14' := Lib.hid hb14
            have hbr14' := Lib.hid hbr14
            have bA14' := Lib.hid bA14
            have hbk14' := Lib.hid hbk14
            have ho14' := Lib.hid ho14
            clear hb14 hbr14 bA14 hbk14 ho14
            go_wp2_with fail
            first | refine Mid.mk ⟨HS.out, ?_⟩ | refine Mid.mk ?_
            refine held_take [11, 12] 3 (by kernel_rfl) (fun d _ _ _ _ h => by cases d <;> exact h) (by kernel_rfl) (by kernel_rfl) (by kernel_rfl) HS.out ?_
            simp only [pickL, List.map_cons, List.map_nil, List.getD_cons_succ, List.getD_cons_zero]
            iterate 2 (go_big_quiet_step (fail))
            refine wpQuiet_nil ?_
            refine held_one 15 2 (by kernel_rfl) (by kernel_rfl) ?_
            simp only [pickL, List.map_cons, List.map_nil, List.getD_cons_succ, List.getD_cons_zero]
            go_wp2_with fail
            refine (hA2'.out _ hbk14'.out).mono ?_
            rintro e w15 ⟨rfl, hb15⟩
            have hbr15 := hbr14'.out.trans (hb15.mono hbr14'.out.size)
            have bA15 := bA14'.out.late hb15
            have hbk15 := hbk14'.out.trans (hb15.mono hbk14'.out.size)
            have ho15 := own_later ho14'.out hb15
            have HS := Lib.hid (hsurj'.out _ ⟨hbr15, bA15, hbk15⟩)
            have hNn := number_any a11 m c11 _ lk at2 4 o w15 (Sl.of_own ho15).1 (by omega) hpk1'.out (by rw [show (4 : Int).toNat = 4 from rfl]; have := hlk1'.out; omega)
            have hb15' := Lib.hid hb15
            have hbr15' := Lib.hid hbr15
            have bA15' := Lib.hid bA15
            have hbk15' := Lib.hid hbk15
            have ho15' := Lib.hid ho15
            have hNn' := Lib.hid hNn
            clear hb15 hbr15 bA15 hbk15 ho15 hNn
            go_wp2_with fail
            first | refine Mid.mk ⟨HS.out, ?_⟩ | refine Mid.mk ?_
            refine held_one 18 1 (by kernel_rfl) (by kernel_rfl) ?_
            simp only [pickL, List.map_cons, List.map_nil, List.getD_cons_succ, List.getD_cons_zero]
            go_wp2_with fail
            refine hNn'.out.mono ?_
            rintro e w16 ⟨a16, c16, rfl, ho16, hb16⟩
            have hbr16 := hbr15'.out.trans (hb16.mono hbr15'.out.size)
            have bA16 := bA15'.out.late hb16
            have hbk16 := hbk15'.out.trans (hb16.mono hbk15'.out.size)
            have ho17 := own_mono ho16 (show w.heap.size ≤ w15.heap.size from hbr15'.out.size)
            have ho18 : w16.ownsRow w.heap.size 5 1 (.slice a16 m c16) m (ints .u8 (apP (chQ (shps zs) (layT f ds) o f ds (k + 1)) P3)) := by
              rw [hCs'.out, hnq'.out, ← List.append_assoc, apP_append]
              exact ho17
            have HS := Lib.hid (hsurj'.out _ ⟨hbr16, bA16, hbk16⟩)
            have hb16' := Lib.hid hb16
            have hbr16' := Lib.hid hbr16
            have bA16' := Lib.hid bA16
            have hbk16' := Lib.hid hbk16
            have ho16' := Lib.hid ho16
            have ho17' := Lib.hid ho17
            have ho18' := Lib.hid ho18
            clear hb16 hbr16 bA16 hbk16 ho16 ho17 ho18
            go_wp2_with fail
            first | refine Mid.mk ⟨HS.out, ?_⟩ | refine Mid.mk ?_
            refine held_take [19] 0 (by kernel_rfl) (fun d _ _ _ _ h => by cases d <;> exact h) (by kernel_rfl) (by kernel_rfl) (by kernel_rfl) HS.out ?_
            simp only [pickL, List.map_cons, List.map_nil, List.getD_cons_succ, List.getD_cons_zero]
            iterate 1 (go_big_quiet_step (fail))
            refine wpQuiet_nil ?_
            refine held_last (by kernel_rfl) ?_
            obtain ⟨b3, o3, ha3, hblt3, fe⟩ := hz6'.out.row.elem shc_len (by decide) shz0 (show ik < n by omega)
            subst ha3
            rw [Int.toNat_natCast, shps_get (by rw [hz6'.out.len]; omega)] at hXs'
            have l3 := late hbk16'.out hblt3 (fe 3 _ rfl)
            rw [← hXs'.out] at l3
            clear fe
            obtain ⟨xs, hxs⟩ : ∃ x, nxtS (shps zs) (k + 1) = x := ⟨_, rfl⟩
            rw [hxs] at l3
            have hxs' := Lib.hid hxs
            clear hxs
            go_wp2_with fail
            go_roundw
            case rel => exact ⟨k + 1, a16, c16, by omega, rfl, by go_num, by rw [hn2'.out], by rw [hxs'.out], ho18', hbk16'⟩
            case measure => simp [intOf]; omega
          · have e1 : decide ((k : Int) + 1 < (sn : Int)) = false := by simp; omega
            have hl2 : ¬ k + 1 < ds.length := by rw [hdn'.out]; exact hl1
            rw [if_neg hl2] at hnq'
            obtain ⟨b3, o3, ha3, hblt3, fe⟩ := hz6'.out.row.elem shc_len (by decide) shz0 (show ik < n by omega)
            subst ha3
            rw [Int.toNat_natCast, shps_get (by rw [hz6'.out.len]; omega)] at hXs'
            have l3 := late hbk11'.out hblt3 (fe 3 _ rfl)
            rw [← hXs'.out] at l3
            clear fe
            obtain ⟨xs, hxs⟩ : ∃ x, nxtS (shps zs) (k + 1) = x := ⟨_, rfl⟩
            rw [hxs] at l3
            have ho18 : w11.ownsRow w.heap.size 5 1 (.slice a11 m c11) m (ints .u8 (apP (chQ (shps zs) (layT f ds) o f ds (k + 1)) P3)) := by
              rw [hCs'.out, hnq'.out, List.append_nil]
              exact ho12'.out
            have hxs' := Lib.hid hxs
            have ho18' := Lib.hid ho18
            clear hxs ho18
            go_wp2_with fail
            go_roundw
            case rel => exact ⟨k + 1, a11, c11, by omega, rfl, by go_num, by rw [hn2'.out], by rw [hxs'.out], ho18', hbk11'⟩
            case measure => simp [intOf]; omega
        · obtain rfl : k = sn := by omega
          rw [← hdn'.out, ← hWB'.out] at hown
          have hbr' := Lib.hid hbr
          have bAr' := Lib.hid bAr
          clear hbr bAr
          go_wp2_with fail
          refine bodyPost_ret (results_tmp2 rfl _ _ _) rfl ?_
          exact ⟨_, _, _, rfl, hown.out, hbr'.out⟩
  · rw [if_neg hR0] at hwr'
    obtain rfl := hwr'.out
    have hz1 : (R != 0) = true := by simp [hR0]
    have hR' := Lib.hid hR
    have hb2' := Lib.hid hb2
    have bA2' := Lib.hid bA2
    have hbw2' := Lib.hid hbw2
    clear hR hb2 bA2 hbw2
    go_wp2_with fail
    refine bodyPost_ret (results_tmp2 rfl _ _ _) rfl ?_
    exact ⟨none, 0, 0, rfl, own_nil _ _ _ _, hbw2'.out⟩
end Go.Proofs.YtilennmeiaehnaaGreat
