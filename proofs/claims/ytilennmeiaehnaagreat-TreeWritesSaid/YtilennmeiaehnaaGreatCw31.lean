/- Chapter 20: values, tags and directories in memory of their own: the document. -/
import Derived.Test.YtilennmeiaehnaaGreatCw30
import Derived.Test.YtilennmeiaehnaaGreatCw10
import Derived.Test.YtilennmeiaehnaaGreatCw14
import Derived.Test.YtilennmeiaehnaaGreatCw01
import Derived.Test.YtilennmeiaehnaaGreatCw12
import Derived.Test.YtilennmeiaehnaaGreatCw15
namespace Go.Proofs.YtilennmeiaehnaaGreat
open Go.RowKit Tt
set_option linter.unusedVariables false
set_option linter.unusedSimpArgs false

theorem tagI1 : (Tryz.prog.info? 78).map (fun i => (i.size, i.bytes)) = some (4, 48) := by kernel_rfl
theorem tagI2 : (Tryz.prog.info? 78).map (fun i => i.zero.map (fun z => z.cells.size)) = some (some 4) := by kernel_rfl
theorem subI1 : (Tryz.prog.info? 44).map (fun i => (i.size, i.bytes)) = some (4, 80) := by kernel_rfl
theorem subI2 : (Tryz.prog.info? 44).map (fun i => i.zero.map (fun z => z.cells.size)) = some (some 4) := by kernel_rfl
def noX : Nat → Prop := fun _ => False
set_option maxHeartbeats 400000 in
theorem own18_any (y k : Int) (a : Option Addr) (n c : Nat) (d : List Int) (w : World) (hs : Sl w a n c 1 (ints .u8 d)) (hl : n ≤ 1000000) :
    Calls Tryz.prog 125 #[.agg #[.int .i64 y, .int .i64 k, .slice a n c]] w fun e w' => ∃ a' c', e = .returned (.agg #[.int .i64 y, .int .i64 k, .slice a' n c']) ∧ w'.ownsRow w.heap.size 5 1 (.slice a' n c') n (ints .u8 d) ∧ Below w.heap.size w w' := by
  have hs' := Lib.hid hs
  clear hs
  go_enter Tryz.func125, Tryz.ntmps125
  go_wp2_with fail
  have hb0 := ((Below.refl w.heap.size w).alloc (Nat.le_refl _) (.cells #[.int .i64 y, .int .i64 k, .slice a n c] 76)).alloc (by simp) (.cells #[.int .i64 0, .int .i64 0, .slice none 0 0] 76)
  have b0 : Blk ((w.alloc (.cells #[.int .i64 y, .int .i64 k, .slice a n c] 76)).alloc (.cells #[.int .i64 0, .int .i64 0, .slice none 0 0] 76)) w.heap.size 76 #[.int .i64 y, .int .i64 k, .slice a n c] := (heap_old _ _ (by simp)).trans (heap_new _ _)
  have b1 : Blk ((w.alloc (.cells #[.int .i64 y, .int .i64 k, .slice a n c] 76)).alloc (.cells #[.int .i64 0, .int .i64 0, .slice none 0 0] 76)) (w.heap.size + 1) 76 #[.int .i64 0, .int .i64 0, .slice none 0 0] := heap_new' _ _ (by simp)
  generalize (w.alloc (.cells #[.int .i64 y, .int .i64 k, .slice a n c] 76)).alloc (.cells #[.int .i64 0, .int .i64 0, .slice none 0 0] 76) = w1 at *
  have hlt1 := b1.lt
  obtain ⟨Ty, f, hne, hbel, hsurj⟩ := below_worlds (w.heap.size + 1) w1
  have q0 : ∀ s, (f s).cell? ⟨w.heap.size, 0, none⟩ = some (.int .i64 y) := fun s => (Blk.mono b0 (hbel s) (by omega)).cell rfl
  have q1 : ∀ s, (f s).cell? ⟨w.heap.size, 1, none⟩ = some (.int .i64 k) := fun s => (Blk.mono b0 (hbel s) (by omega)).cell rfl
  have q2 : ∀ s, (f s).cell? ⟨w.heap.size, 2, none⟩ = some (.slice a n c) := fun s => (Blk.mono b0 (hbel s) (by omega)).cell rfl
  have HS := Lib.hid (hsurj _ ((Below.refl _ _).drew))
  have HD := Lib.hid ((Below.refl w1.heap.size w1).drew)
  have hbel' := Lib.hid hbel
  have hsurj' := Lib.hid hsurj
  have hb0' := Lib.hid hb0
  have b0' := Lib.hid b0
  have b1' := Lib.hid b1
  clear hbel hsurj hb0 b0 b1
  refine held_begin (S := fun W => ∃ s, W = f s) (by kernel_rfl) 9 rfl ?_
  refine held_take [0, 1, 2, 3, 4, 5] 3 (by kernel_rfl) (fun d _ _ _ _ h => by cases d <;> exact h) (by kernel_rfl) (by kernel_rfl) (by kernel_rfl) HS.out ?_
  simp only [pickL, List.map_cons, List.map_nil, List.getD_cons_succ, List.getD_cons_zero]
  iterate 6 (go_big_quiet_step (fail))
  refine wpQuiet_nil ?_
  refine held_one 6 2 (by kernel_rfl) (by kernel_rfl) ?_
  simp only [pickL, List.map_cons, List.map_nil, List.getD_cons_succ, List.getD_cons_zero]
  go_wp2_with fail
  refine (own01_any a n c d _ (hs'.out.mono (hb0'.out.trans (HD.out.mono hb0'.out.size))) (by omega)).mono ?_
  rintro e w2 ⟨a5, c5, rfl, ho, hb2⟩
  have hb := HD.out.trans (hb2.mono HD.out.size)
  have hbb := hb0'.out.trans (hb.mono hb0'.out.size)
  have b1 := b1'.out.late hb
  have HS := Lib.hid (hsurj'.out _ (hb.mono (Nat.le_of_lt hlt1)))
  have hb' := Lib.hid hb
  have hb2' := Lib.hid hb2
  have hbb' := Lib.hid hbb
  have b1' := Lib.hid b1
  have ho' := Lib.hid ho
  clear hb hb2 hbb b1 ho
  go_wp2_with fail
  first | refine Mid.mk ⟨HS.out, ?_⟩ | refine Mid.mk ?_
  refine held_take [7] 1 (by kernel_rfl) (fun d _ _ _ _ h => by cases d <;> exact h) (by kernel_rfl) (by kernel_rfl) (by kernel_rfl) HS.out ?_
  simp only [pickL, List.map_cons, List.map_nil, List.getD_cons_succ, List.getD_cons_zero]
  iterate 1 (go_big_quiet_step (fail))
  refine wpQuiet_nil ?_
  refine held_one 8 0 (by kernel_rfl) (by kernel_rfl) ?_
  simp only [pickL, List.map_cons, List.map_nil, List.getD_cons_succ, List.getD_cons_zero]
  have p0 : w2.cell? ⟨w.heap.size + 1, 0, none⟩ = some (.int .i64 0) := b1'.out.cell rfl
  have p1 : w2.cell? ⟨w.heap.size + 1, 1, none⟩ = some (.int .i64 0) := b1'.out.cell rfl
  have p2 : w2.cell? ⟨w.heap.size + 1, 2, none⟩ = some (.slice none 0 0) := b1'.out.cell rfl
  have y0 := b1'.out.frozen 0
  have y1 := b1'.out.frozen 1
  have y2 := b1'.out.frozen 2
  go_wp2_with fail
  have HS := Lib.hid (hsurj'.out _ (below_set3 (hb'.out.mono (Nat.le_of_lt hlt1)) (Nat.le_refl _) (.int .i64 y) (.int .i64 k) (.slice a5 n c5)))
  refine Mid.mk ⟨HS.out, ?_⟩
  refine held_last (by kernel_rfl) ?_
  go_wp2_with fail
  refine bodyPost_ret (results_cell_row rfl _ _ (w.heap.size + 1) 76 #[.int .i64 y, .int .i64 k, .slice a5 n c5] (0, 0) _ rfl (b1'.out.set3 _ _ _) Tryz.underlying76 rfl (by kernel_rfl)) rfl ?_
  refine ⟨_, _, rfl, own_mono (own_set3 ho'.out (Nat.lt_of_lt_of_le hlt1 HD.out.size) _ _ _) (Nat.le_trans hb0'.out.size HD.out.size), below_set3 hbb'.out (by omega) _ _ _⟩

set_option maxRecDepth 20000 in
set_option maxHeartbeats 4000000 in
theorem rowntags_any (a : Option Addr) (n c : Nat) (zs : List Tz) (w : World) (hs : Tgr w a n c zs) (hl : n ≤ 1000000) (hd : ∀ z ∈ zs, z.2.length ≤ 1000000) :
    Calls Tryz.prog 75 #[.slice a n c] w fun e w' => ∃ a' c', e = .returned (.slice a' n c') ∧ TagsAt noX w.heap.size w' (.slice a' n c') (zs.map tagz) ∧ Below w.heap.size w w' := by
  have hzl := hs.len
  obtain ⟨i0, z0, hi0, hz, hz1, hz2, hz3⟩ := info_of tagI1 tagI2
  have hs' := Lib.hid hs
  have hd' := Lib.hid hd
  have hzl' := Lib.hid hzl
  clear hs hd hzl
  go_enter Tryz.func75, Tryz.ntmps75
  go_wp2_with fail
  go_loopw [3, 4] (fun ov iv wr => ∃ (i : Nat) (a1 : Option Addr) (c1 : Nat), i ≤ n ∧ iv = .int .i64 i ∧ ov = .slice a1 i c1 ∧ Hid (TagsAt noX w.heap.size wr (.slice a1 i c1) ((zs.map tagz).take i)) ∧ Hid (Below w.heap.size w wr)) (fun _ iv _ => n - (intOf iv).toNat)
  case atStart => exact ⟨0, none, 0, by omega, rfl, rfl, Lib.hid (TagsAt.nil _ _ _), Lib.hid (Below.refl _ _)⟩
  case round =>
    obtain ⟨i, a1, c1, hin, rfl, rfl, hto, hb⟩ := hrel
    by_cases hi : i < n
    · have hil : (i : Int) < (n : Int) := by omega
      have hw1 : IntKind.i64.wrap ((i : Int) + 1) = i + 1 := by rw [IntKind.wrap_i64]; omega
      have hiz : i < zs.length := by rw [hzl'.out]; exact hi
      have hdn := hd'.out (zs.getD i tz0) (by rw [getD_el hiz]; exact List.getElem_mem _)
      have hnext : (zs.map tagz).take (i + 1) = (zs.map tagz).take i ++ [tagz (zs.getD i tz0)] := by
        rw [List.take_succ_eq_append_getElem (by rw [List.length_map]; exact hiz), List.getElem_map, getD_el hiz]
      obtain ⟨b, o, rfl, hblt, f0, f1, f2, f3, hrd⟩ := hs'.out.at hi
      obtain ⟨⟨⟨y, t, k, xa, xn, xc⟩, d⟩, hzi⟩ : ∃ z, zs.getD i tz0 = z := ⟨_, rfl⟩
      rw [hzi] at f0 f1 f2 f3 hrd hdn hnext
      simp only at f0 f1 f2 f3 hrd hdn
      have hxn : xn ≤ 1000000 := by have := hrd.ilen; omega
      obtain ⟨Ty, f, hne, hbel, hsurj⟩ := below_worlds w.heap.size w
      have q0 : ∀ s, (f s).cell? ⟨b, o + i * 4, none⟩ = some (.int .i64 y) := fun s => late (hbel s) hblt f0
      have q1 : ∀ s, (f s).cell? ⟨b, o + i * 4 + 1, none⟩ = some (.int .i64 t) := fun s => late (hbel s) hblt f1
      have q2 : ∀ s, (f s).cell? ⟨b, o + i * 4 + 2, none⟩ = some (.int .i64 k) := fun s => late (hbel s) hblt f2
      have q3 : ∀ s, (f s).cell? ⟨b, o + i * 4 + 3, none⟩ = some (.slice xa xn xc) := fun s => late (hbel s) hblt f3
      have HS := Lib.hid (hsurj _ (hb.out.drew))
      have HD := Lib.hid ((Below.refl wr.heap.size wr).drew)
      clear f0 f1 f2 f3 hblt
      have hbel' := Lib.hid hbel
      have hsurj' := Lib.hid hsurj
      have hrd' := Lib.hid hrd
      have hzi' := Lib.hid hzi
      have hnext' := Lib.hid hnext
      clear hbel hsurj hrd hzi hnext
      go_wp2_with fail
      refine held_begin (S := fun W => ∃ s, W = f s) (by kernel_rfl) 16 rfl ?_
      refine held_take [0, 1, 2, 3, 4, 5, 6, 7, 8, 9, 10] 5 (by kernel_rfl) (fun d _ _ _ _ h => by cases d <;> exact h) (by kernel_rfl) (by kernel_rfl) (by kernel_rfl) HS.out ?_
      simp only [pickL, List.map_cons, List.map_nil, List.getD_cons_succ, List.getD_cons_zero]
      iterate 11 (go_big_quiet_step (fail))
      refine wpQuiet_nil ?_
      refine held_one 11 4 (by kernel_rfl) (by kernel_rfl) ?_
      simp only [pickL, List.map_cons, List.map_nil, List.getD_cons_succ, List.getD_cons_zero]
      go_wp2_with fail
      have hrw := hrd'.out.mono (hb.out.trans (HD.out.mono hb.out.size))
      refine (own18_any t k xa xn xc d _ hrw hxn).mono ?_
      rintro e w2 ⟨a6, c6, rfl, ho2, hb2⟩
      have hb12 := HD.out.trans (hb2.mono HD.out.size)
      have hbw := hb.out.trans (hb12.mono hb.out.size)
      have hto2 := hto.out.keep (Kp.later hb12)
      have ho3 := own_mono ho2 (show w.heap.size ≤ _ from Nat.le_trans hb.out.size HD.out.size)
      have HS := Lib.hid (hsurj'.out _ hbw)
      clear ho2 hb2 hb12 hrw
      have hbw' := Lib.hid hbw
      have hto2' := Lib.hid hto2
      have ho3' := Lib.hid ho3
      clear hbw hto2 ho3
      go_wp2_with fail
      first | refine Mid.mk ⟨HS.out, ?_⟩ | refine Mid.mk ?_
      refine held_take [12] 3 (by kernel_rfl) (fun d _ _ _ _ h => by cases d <;> exact h) (by kernel_rfl) (by kernel_rfl) (by kernel_rfl) HS.out ?_
      simp only [pickL, List.map_cons, List.map_nil, List.getD_cons_succ, List.getD_cons_zero]
      iterate 1 (go_big_quiet_step (fail))
      refine wpQuiet_nil ?_
      refine held_one 13 2 (by kernel_rfl) (by kernel_rfl) ?_
      simp only [pickL, List.map_cons, List.map_nil, List.getD_cons_succ, List.getD_cons_zero]
      go_wp2_with fail
      have hal := (Below.refl w2.heap.size w2).alloc (Nat.le_refl _) (.cells #[.int .i64 y, .int .i64 t, .int .i64 k, .slice a6 xn c6] 78)
      have hbw := hbw'.out.trans (hal.mono hbw'.out.size)
      have hto3 := hto2'.out.keep (Kp.later hal)
      have ho4 := own_later ho3'.out hal
      have HS := Lib.hid (hsurj'.out _ hbw)
      obtain ⟨zs3, e3, h3, _⟩ := hto3
      have hz3l : zs3.length = i := by have := congrArg List.length e3; simp at this; omega
      have hr3 := h3.1
      rw [hz3l] at hr3
      have hto3 := hto2'.out.keep (Kp.later hal)
      clear hal e3 h3
      have hbw' := Lib.hid hbw
      have hto3' := Lib.hid hto3
      have ho4' := Lib.hid ho4
      have hz3l' := Lib.hid hz3l
      clear hbw hto3 ho4 hz3l
      first | refine Mid.mk ⟨HS.out, ?_⟩ | refine Mid.mk ?_
      refine held_one 14 1 (by kernel_rfl) (by kernel_rfl) ?_
      simp only [pickL, List.map_cons, List.map_nil, List.getD_cons_succ, List.getD_cons_zero]
      go_wp2_with (at_builtin; refine wpList_app rfl _ _ 39 rfl w.heap.size 78 i0 z0 4 48 Tryz.underlying39 hi0 hz hz1 hz2 hz3 (by decide) _ i _ rfl hr3 _ 1 1 [.int .i64 y, .int .i64 t, .int .i64 k, .slice a6 xn c6] rfl (Sl.new' _ 78 4 1 #[.int .i64 y, .int .i64 t, .int .i64 k, .slice a6 xn c6] (0, 0) (by simp) (by omega) rfl) (by simp [Value.oneCell']) (by omega) (by decide) hbw'.out.size ?_; intro a7 c7 w7 ob hb7 hg7; have Ob := Lib.hid ob; have Hg7 := Lib.hid hg7; clear ob hb7 hg7)
      have hto4 : TagsAt noX w.heap.size w7 (.slice a7 (i + 1) c7) ((zs.map tagz).take i ++ [(y, t, k, d)]) := TagsAt.snoc (z := ((y, t, k, a6, xn, c6), d)) hto3'.out rfl Hg7.out (fun _ _ h => h)
        (fun zs4 h4 => by
          rw [List.length_take, List.length_map, show min i zs.length = i by omega] at h4 ⊢
          rw [own_inj h4 hr3]
          exact Ob.out) ⟨by have := hrd'.out.ilen; rw [this]; exact ho4'.out, fun _ _ h => h⟩
      have hbw := below_grown hbw'.out Hg7.out hbw'.out.size hr3
      have HS := Lib.hid (hsurj'.out _ hbw)
      have hto4' := Lib.hid hto4
      have hbw' := Lib.hid hbw
      clear hto4 hbw
      first | refine Mid.mk ⟨HS.out, ?_⟩ | refine Mid.mk ?_
      refine held_one 15 0 (by kernel_rfl) (by kernel_rfl) ?_
      simp only [pickL, List.map_cons, List.map_nil, List.getD_cons_succ, List.getD_cons_zero]
      go_wp2_with fail
      first | refine Mid.mk ⟨HS.out, ?_⟩ | refine Mid.mk ?_
      refine held_last (by kernel_rfl) ?_
      go_wp2_with fail
      go_roundw
      case rel => exact ⟨i + 1, _, _, by omega, by go_num, rfl, Lib.hid (by rw [hnext'.out]; exact hto4'.out), hbw'⟩
      case measure => simp [intOf]; omega
    · obtain rfl : i = n := by omega
      go_wp2
      go_ret
      exact ⟨_, _, rfl, by rw [List.take_of_length_le (by rw [List.length_map, hzl'.out]; exact Nat.le_refl _)] at hto; exact hto.out, hb.out⟩
def dataD : (f : Nat) → DirT f → Prop
  | 0, _ => True
  | f + 1, d => (∀ t ∈ d.1, t.2.2.2.length ≤ 600) ∧ ∀ s ∈ d.2.1, dataD f s.2
def ROwn (f : Nat) : Prop := ∀ (w0 w : World) (d : DirT f) (dv : Dz), DirR w0 f d dv → Below w0.heap.size w0 w → smallD f d → dataD f d →
  Calls Tryz.prog 39 #[.agg #[dv.1, dv.2.1, dv.2.2]] w fun e w' => ∃ dv' : Dz, e = .returned (.agg #[dv'.1, dv'.2.1, dv'.2.2]) ∧ DirAt noX w.heap.size w' f d dv' ∧ Below w.heap.size w w'
set_option maxRecDepth 20000 in
set_option maxHeartbeats 4000000 in
theorem rown_step (f : Nat) (ih : ROwn f) : ROwn (f + 1) := by
  intro w0 w d dv hd hb0 hs hdt2
  obtain ⟨i0, z0, hi0, hz, hz1, hz2, hz3⟩ := info_of subI1 subI2
  obtain ⟨ta, tn, tc, zs, sa, sn, sc, ds, ba, bn, bc, rfl, htg, hdt, hsl, hdl, hsub, hbl⟩ := hd
  obtain ⟨h1, h2, h3, h4⟩ := hs
  have htn : d.1.length = tn := by rw [hdt, List.length_map]; exact htg.len
  have hsn : d.2.1.length = sn := by rw [← hdl]; exact hsl.flen sbC_len (by decide)
  have hbn : d.2.2.length = bn := hbl.ilen
  have hsn6 : sn ≤ 6 := by omega
  have htn1 : tn ≤ 1000000 := by omega
  have hbn1 : bn ≤ 140737488355328 := by omega
  have hdz : ∀ z ∈ zs, z.2.length ≤ 1000000 := fun z hz => by
    have := hdt2.1 (tagz z) (by rw [hdt]; exact List.mem_map_of_mem hz)
    exact Nat.le_trans this (by decide)
  obtain ⟨WC, hWC, bA, bB, hbC, sC⟩ := two_boxes w 42 #[.slice ta tn tc, .slice sa sn sc, .slice ba bn bc] 42 #[.slice none 0 0, .slice none 0 0, .slice none 0 0]
  have hb0C := hb0.trans (hbC.mono hb0.size)
  have hltA := bA.lt
  have hb0' := Lib.hid hb0
  have htg' := Lib.hid htg
  have hdt' := Lib.hid hdt
  have hsl' := Lib.hid hsl
  have hdl' := Lib.hid hdl
  have hsub' := Lib.hid hsub
  have hbl' := Lib.hid hbl
  have h4' := Lib.hid h4
  have hdt2' := Lib.hid hdt2
  have hdz' := Lib.hid hdz
  have hWC' := Lib.hid hWC
  have bA' := Lib.hid bA
  have bB' := Lib.hid bB
  have hbC' := Lib.hid hbC
  have hb0C' := Lib.hid hb0C
  have ih' := Lib.hid ih
  have htn' := Lib.hid htn
  have hsn' := Lib.hid hsn
  have hbn' := Lib.hid hbn
  clear hb0 htg hdt hsl hdl hsub hbl h4 hdt2 hdz hWC bA bB hbC hb0C ih htn hsn hbn
  go_enter Tryz.func39, Tryz.ntmps39
  go_wp2_with fail
  rw [hWC'.out]
  go_cut [3] from 5 to 11 (fun v wx => ∃ (g : Nat) (a1 : Option Addr) (c1 : Nat) (a3 : Option Addr) (c3 : Nat), v = .pointer (some ⟨g, 0, none⟩) ∧ Hid (Blk wx g 42 #[.slice a1 tn c1, .slice none 0 0, .slice a3 bn c3]) ∧ Hid (TagsAt noX (w.heap.size + 2) wx (.slice a1 tn c1) d.1) ∧ Hid (Ck noX (w.heap.size + 2) wx (.slice a3 bn c3) 5 1 bn (ints .u8 d.2.2)) ∧ Hid (w.heap.size + 2 ≤ g) ∧ Hid (Below WC.heap.size WC wx))
  case first =>
    obtain ⟨Ty, ff, hne, hbel, hsurj⟩ := later_worlds WC
    have HS := Lib.hid (hsurj _ ((Below.refl _ _).drew))
    have HD := Lib.hid ((Below.refl WC.heap.size WC).drew)
    have q0 : ∀ s, (ff s).cell? ⟨w.heap.size, 0, none⟩ = some (.slice ta tn tc) := fun s => (bA'.out.late (hbel s)).cell rfl
    have q2 : ∀ s, (ff s).cell? ⟨w.heap.size, 2, none⟩ = some (.slice ba bn bc) := fun s => (bA'.out.late (hbel s)).cell rfl
    have hbel' := Lib.hid hbel
    have hsurj' := Lib.hid hsurj
    clear hbel hsurj
    refine held_begin (S := fun W => ∃ s, W = ff s) (by kernel_rfl) 9 rfl ?_
    refine held_take [0, 1, 3, 4] 5 (by kernel_rfl) (fun d _ _ _ _ h => by cases d <;> exact h) (by kernel_rfl) (by kernel_rfl) (by kernel_rfl) HS.out ?_
    simp only [pickL, List.map_cons, List.map_nil, List.getD_cons_succ, List.getD_cons_zero]
    iterate 4 (go_big_quiet_step (fail))
    refine wpQuiet_nil ?_
    obtain ⟨wD, hwD⟩ : ∃ wD, WC.drew = wD := ⟨_, rfl⟩
    rw [hwD] at HS HD ⊢
    clear hwD
    refine held_two 2 7 4 (by kernel_rfl) (by kernel_rfl) ?_ ?_
    · simp only [pickL, List.map_cons, List.map_nil, List.getD_cons_succ, List.getD_cons_zero]
      go_wp2_with fail
      refine (rowntags_any ta tn tc zs wD (htg'.out.mono (hb0C'.out.trans (HD.out.mono hb0C'.out.size))) htn1 hdz'.out).mono ?_
      rintro e w2 ⟨a1, c1, rfl, hta, hb2⟩
      have hbx2 := HD.out.trans (hb2.mono HD.out.size)
      have hta := hta.mono (show w.heap.size + 2 ≤ _ from by rw [← sC]; exact HD.out.size)
      rw [← hdt'.out] at hta
      have HS := Lib.hid (hsurj'.out _ hbx2)
      have hta' := Lib.hid hta
      have hbx2' := Lib.hid hbx2
      have hb2' := Lib.hid hb2
      clear hta hbx2 hb2
      go_wp2_with fail
      first | refine Mid.mk ⟨HS.out, ?_⟩ | refine Mid.mk ?_
      refine held_two 5 7 3 (by kernel_rfl) (by kernel_rfl) ?_ ?_
      · simp only [pickL, List.map_cons, List.map_nil, List.getD_cons_succ, List.getD_cons_zero]
        go_wp2_with fail
        refine (own01_any ba bn bc d.2.2 w2 (hbl'.out.mono (hb0C'.out.trans (hbx2'.out.mono hb0C'.out.size))) hbn1).mono ?_
        rintro e w3 ⟨a3, c3, rfl, hck, hb3⟩
        have hbx3 := hbx2'.out.trans (hb3.mono hbx2'.out.size)
        have hck : Ck noX (w.heap.size + 2) w3 (.slice a3 bn c3) 5 1 bn (ints .u8 d.2.2) := ⟨own_mono hck (show w.heap.size + 2 ≤ _ from by rw [← sC]; exact hbx2'.out.size), fun _ _ h => h⟩
        have HS := Lib.hid (hsurj'.out _ hbx3)
        have hta3 := hta'.out.keep (Kp.later hb3)
        have hta3' := Lib.hid hta3
        have hck' := Lib.hid hck
        have hbx3' := Lib.hid hbx3
        have hb3' := Lib.hid hb3
        clear hta3 hck hbx3 hb3
        go_wp2_with fail
        first | refine Mid.mk ⟨HS.out, ?_⟩ | refine Mid.mk ?_
        refine held_take [6] 2 (by kernel_rfl) (fun d _ _ _ _ h => by cases d <;> exact h) (by kernel_rfl) (by kernel_rfl) (by kernel_rfl) HS.out ?_
        simp only [pickL, List.map_cons, List.map_nil, List.getD_cons_succ, List.getD_cons_zero]
        iterate 1 (go_big_quiet_step (fail))
        refine wpQuiet_nil ?_
        refine held_one 7 1 (by kernel_rfl) (by kernel_rfl) ?_
        simp only [pickL, List.map_cons, List.map_nil, List.getD_cons_succ, List.getD_cons_zero]
        go_wp2_with fail
        have bG := Blk.new w3 42 #[.slice none 0 0, .slice none 0 0, .slice none 0 0]
        have hal := (Below.refl w3.heap.size w3).alloc (Nat.le_refl _) (.cells #[.slice none 0 0, .slice none 0 0, .slice none 0 0] 42)
        have hbxA := hbx3'.out.trans (hal.mono hbx3'.out.size)
        have hNg : w.heap.size + 2 ≤ w3.heap.size := by rw [← sC]; exact hbx3'.out.size
        obtain ⟨g, hg⟩ : ∃ g, w3.heap.size = g := ⟨_, rfl⟩
        obtain ⟨wA, hwA⟩ : ∃ wA, w3.alloc (.cells #[.slice none 0 0, .slice none 0 0, .slice none 0 0] 42) = wA := ⟨_, rfl⟩
        rw [hwA] at bG hal hbxA
        rw [hwA]
        rw [hg] at bG hNg
        try rw [hg]
        have HS := Lib.hid (hsurj'.out _ hbxA)
        have htaL := hta3'.out.keep (Kp.later hal)
        have hckL := hck'.out.keep (Kp.later hal)
        have hbxL := hbxA
        have bG' := Lib.hid bG
        have htaL' := Lib.hid htaL
        have hckL' := Lib.hid hckL
        have hbxL' := Lib.hid hbxL
        have hal' := Lib.hid hal
        have hbxA' := Lib.hid hbxA
        have hwA' := Lib.hid hwA
        have hg' := Lib.hid hg
        clear bG htaL hckL hbxL hal hbxA hwA hg
        first | refine Mid.mk ⟨HS.out, ?_⟩ | refine Mid.mk ?_
        refine held_one 8 0 (by kernel_rfl) (by kernel_rfl) ?_
        simp only [pickL, List.map_cons, List.map_nil, List.getD_cons_succ, List.getD_cons_zero]
        have p0 : wA.cell? ⟨g, 0, none⟩ = some (.slice none 0 0) := bG'.out.cell rfl
        have p1 : wA.cell? ⟨g, 1, none⟩ = some (.slice none 0 0) := bG'.out.cell rfl
        have p2 : wA.cell? ⟨g, 2, none⟩ = some (.slice none 0 0) := bG'.out.cell rfl
        have y0 := bG'.out.frozen 0
        have y1 := bG'.out.frozen 1
        have y2 := bG'.out.frozen 2
        go_wp2_with fail
        have hbt := (((But.refl g wA).set 0 (.slice a1 tn c1)).set 1 (.slice none 0 0)).set 2 (.slice a3 bn c3)
        have hWg : WC.heap.size ≤ g := by rw [sC]; exact hNg
        have HS := Lib.hid (hsurj'.out _ (below_set3 hbxL'.out hWg (.slice a1 tn c1) (.slice none 0 0) (.slice a3 bn c3)))
        have bZ := bG'.out.set3 (.slice a1 tn c1) (.slice none 0 0) (.slice a3 bn c3)
        have htz := htaL'.out.butT hbt bG'.out
        have hcz := ck_butT hckL'.out hbt bG'.out (by decide)
        have hbz := below_set3 hbxL'.out hWg (.slice a1 tn c1) (.slice none 0 0) (.slice a3 bn c3)
        have bZ' := Lib.hid bZ
        have htz' := Lib.hid htz
        have hcz' := Lib.hid hcz
        have hbz' := Lib.hid hbz
        have hbt' := Lib.hid hbt
        clear bZ htz hcz hbz hbt
        first | refine Mid.mk ⟨HS.out, ?_⟩ | refine Mid.mk ?_
        refine held_last (by kernel_rfl) ?_
        go_wp2_with fail
        go_meet
        exact ⟨g, a1, c1, a3, c3, rfl, bZ', htz', hcz', Lib.hid hNg, hbz'⟩
      · simp only [pickL, List.map_cons, List.map_nil, List.getD_cons_succ, List.getD_cons_zero]
        go_wp2_with fail
        have bG := Blk.new w2 42 #[.slice none 0 0, .slice none 0 0, .slice none 0 0]
        have hal := (Below.refl w2.heap.size w2).alloc (Nat.le_refl _) (.cells #[.slice none 0 0, .slice none 0 0, .slice none 0 0] 42)
        have hbxA := hbx2'.out.trans (hal.mono hbx2'.out.size)
        have hNg : w.heap.size + 2 ≤ w2.heap.size := by rw [← sC]; exact hbx2'.out.size
        obtain ⟨g, hg⟩ : ∃ g, w2.heap.size = g := ⟨_, rfl⟩
        obtain ⟨wA, hwA⟩ : ∃ wA, w2.alloc (.cells #[.slice none 0 0, .slice none 0 0, .slice none 0 0] 42) = wA := ⟨_, rfl⟩
        rw [hwA] at bG hal hbxA
        rw [hwA]
        rw [hg] at bG hNg
        try rw [hg]
        have HS := Lib.hid (hsurj'.out _ hbxA)
        have htaA := hta'.out.keep (Kp.later hal)
        have bG' := Lib.hid bG
        have htaA' := Lib.hid htaA
        have hal' := Lib.hid hal
        have hbxA' := Lib.hid hbxA
        have hwA' := Lib.hid hwA
        have hg' := Lib.hid hg
        clear bG htaA hal hbxA hwA hg
        first | refine Mid.mk ⟨HS.out, ?_⟩ | refine Mid.mk ?_
        refine held_one 5 2 (by kernel_rfl) (by kernel_rfl) ?_
        simp only [pickL, List.map_cons, List.map_nil, List.getD_cons_succ, List.getD_cons_zero]
        go_wp2_with fail
        refine (own01_any ba bn bc d.2.2 wA (hbl'.out.mono (hb0C'.out.trans (hbxA'.out.mono hb0C'.out.size))) hbn1).mono ?_
        rintro e w3 ⟨a3, c3, rfl, hck, hb3⟩
        have hbx3 := hbxA'.out.trans (hb3.mono hbxA'.out.size)
        have hck : Ck noX (w.heap.size + 2) w3 (.slice a3 bn c3) 5 1 bn (ints .u8 d.2.2) := ⟨own_mono hck (show w.heap.size + 2 ≤ _ from by rw [← sC]; exact hbxA'.out.size), fun _ _ h => h⟩
        have HS := Lib.hid (hsurj'.out _ hbx3)
        have htaL := htaA'.out.keep (Kp.later hb3)
        have hckL := hck
        have hbxL := hbx3
        have bG := bG'.out.late hb3
        clear bG'
        have bG' := Lib.hid bG
        have htaL' := Lib.hid htaL
        have hckL' := Lib.hid hckL
        have hbxL' := Lib.hid hbxL
        have hck' := Lib.hid hck
        have hbx3' := Lib.hid hbx3
        have hb3' := Lib.hid hb3
        clear bG htaL hckL hbxL hck hbx3 hb3
        go_wp2_with fail
        first | refine Mid.mk ⟨HS.out, ?_⟩ | refine Mid.mk ?_
        refine held_take [6] 1 (by kernel_rfl) (fun d _ _ _ _ h => by cases d <;> exact h) (by kernel_rfl) (by kernel_rfl) (by kernel_rfl) HS.out ?_
        simp only [pickL, List.map_cons, List.map_nil, List.getD_cons_succ, List.getD_cons_zero]
        iterate 1 (go_big_quiet_step (fail))
        refine wpQuiet_nil ?_
        refine held_one 8 0 (by kernel_rfl) (by kernel_rfl) ?_
        simp only [pickL, List.map_cons, List.map_nil, List.getD_cons_succ, List.getD_cons_zero]
        have p0 : w3.cell? ⟨g, 0, none⟩ = some (.slice none 0 0) := bG'.out.cell rfl
        have p1 : w3.cell? ⟨g, 1, none⟩ = some (.slice none 0 0) := bG'.out.cell rfl
        have p2 : w3.cell? ⟨g, 2, none⟩ = some (.slice none 0 0) := bG'.out.cell rfl
        have y0 := bG'.out.frozen 0
        have y1 := bG'.out.frozen 1
        have y2 := bG'.out.frozen 2
        go_wp2_with fail
        have hbt := (((But.refl g w3).set 0 (.slice a1 tn c1)).set 1 (.slice none 0 0)).set 2 (.slice a3 bn c3)
        have hWg : WC.heap.size ≤ g := by rw [sC]; exact hNg
        have HS := Lib.hid (hsurj'.out _ (below_set3 hbxL'.out hWg (.slice a1 tn c1) (.slice none 0 0) (.slice a3 bn c3)))
        have bZ := bG'.out.set3 (.slice a1 tn c1) (.slice none 0 0) (.slice a3 bn c3)
        have htz := htaL'.out.butT hbt bG'.out
        have hcz := ck_butT hckL'.out hbt bG'.out (by decide)
        have hbz := below_set3 hbxL'.out hWg (.slice a1 tn c1) (.slice none 0 0) (.slice a3 bn c3)
        have bZ' := Lib.hid bZ
        have htz' := Lib.hid htz
        have hcz' := Lib.hid hcz
        have hbz' := Lib.hid hbz
        have hbt' := Lib.hid hbt
        clear bZ htz hcz hbz hbt
        first | refine Mid.mk ⟨HS.out, ?_⟩ | refine Mid.mk ?_
        refine held_last (by kernel_rfl) ?_
        go_wp2_with fail
        go_meet
        exact ⟨g, a1, c1, a3, c3, rfl, bZ', htz', hcz', Lib.hid hNg, hbz'⟩
    · simp only [pickL, List.map_cons, List.map_nil, List.getD_cons_succ, List.getD_cons_zero]
      go_wp2_with fail
      have bG := Blk.new wD 42 #[.slice none 0 0, .slice none 0 0, .slice none 0 0]
      have hal := (Below.refl wD.heap.size wD).alloc (Nat.le_refl _) (.cells #[.slice none 0 0, .slice none 0 0, .slice none 0 0] 42)
      have hbxA := HD.out.trans (hal.mono HD.out.size)
      have hNg : w.heap.size + 2 ≤ wD.heap.size := by rw [← sC]; exact HD.out.size
      obtain ⟨g, hg⟩ : ∃ g, wD.heap.size = g := ⟨_, rfl⟩
      obtain ⟨wA, hwA⟩ : ∃ wA, wD.alloc (.cells #[.slice none 0 0, .slice none 0 0, .slice none 0 0] 42) = wA := ⟨_, rfl⟩
      rw [hwA] at bG hal hbxA
      rw [hwA]
      rw [hg] at bG hNg
      try rw [hg]
      have HS := Lib.hid (hsurj'.out _ hbxA)
      have bG' := Lib.hid bG
      have hal' := Lib.hid hal
      have hbxA' := Lib.hid hbxA
      have hwA' := Lib.hid hwA
      have hg' := Lib.hid hg
      clear bG hal hbxA hwA hg
      first | refine Mid.mk ⟨HS.out, ?_⟩ | refine Mid.mk ?_
      refine held_one 2 3 (by kernel_rfl) (by kernel_rfl) ?_
      simp only [pickL, List.map_cons, List.map_nil, List.getD_cons_succ, List.getD_cons_zero]
      go_wp2_with fail
      refine (rowntags_any ta tn tc zs wA (htg'.out.mono (hb0C'.out.trans (hbxA'.out.mono hb0C'.out.size))) htn1 hdz'.out).mono ?_
      rintro e w2 ⟨a1, c1, rfl, hta, hb2⟩
      have hbx2 := hbxA'.out.trans (hb2.mono hbxA'.out.size)
      have hta := hta.mono (show w.heap.size + 2 ≤ _ from by rw [← sC]; exact hbxA'.out.size)
      rw [← hdt'.out] at hta
      have HS := Lib.hid (hsurj'.out _ hbx2)
      have bG := bG'.out.late hb2
      clear bG'
      have bG' := Lib.hid bG
      have hta' := Lib.hid hta
      have hbx2' := Lib.hid hbx2
      have hb2' := Lib.hid hb2
      clear bG hta hbx2 hb2
      go_wp2_with fail
      first | refine Mid.mk ⟨HS.out, ?_⟩ | refine Mid.mk ?_
      refine held_one 5 2 (by kernel_rfl) (by kernel_rfl) ?_
      simp only [pickL, List.map_cons, List.map_nil, List.getD_cons_succ, List.getD_cons_zero]
      go_wp2_with fail
      refine (own01_any ba bn bc d.2.2 w2 (hbl'.out.mono (hb0C'.out.trans (hbx2'.out.mono hb0C'.out.size))) hbn1).mono ?_
      rintro e w3 ⟨a3, c3, rfl, hck, hb3⟩
      have hbx3 := hbx2'.out.trans (hb3.mono hbx2'.out.size)
      have hck : Ck noX (w.heap.size + 2) w3 (.slice a3 bn c3) 5 1 bn (ints .u8 d.2.2) := ⟨own_mono hck (show w.heap.size + 2 ≤ _ from by rw [← sC]; exact hbx2'.out.size), fun _ _ h => h⟩
      have HS := Lib.hid (hsurj'.out _ hbx3)
      have htaL := hta'.out.keep (Kp.later hb3)
      have hckL := hck
      have hbxL := hbx3
      have bG := bG'.out.late hb3
      clear bG'
      have bG' := Lib.hid bG
      have htaL' := Lib.hid htaL
      have hckL' := Lib.hid hckL
      have hbxL' := Lib.hid hbxL
      have hck' := Lib.hid hck
      have hbx3' := Lib.hid hbx3
      have hb3' := Lib.hid hb3
      clear bG htaL hckL hbxL hck hbx3 hb3
      go_wp2_with fail
      first | refine Mid.mk ⟨HS.out, ?_⟩ | refine Mid.mk ?_
      refine held_take [6] 1 (by kernel_rfl) (fun d _ _ _ _ h => by cases d <;> exact h) (by kernel_rfl) (by kernel_rfl) (by kernel_rfl) HS.out ?_
      simp only [pickL, List.map_cons, List.map_nil, List.getD_cons_succ, List.getD_cons_zero]
      iterate 1 (go_big_quiet_step (fail))
      refine wpQuiet_nil ?_
      refine held_one 8 0 (by kernel_rfl) (by kernel_rfl) ?_
      simp only [pickL, List.map_cons, List.map_nil, List.getD_cons_succ, List.getD_cons_zero]
      have p0 : w3.cell? ⟨g, 0, none⟩ = some (.slice none 0 0) := bG'.out.cell rfl
      have p1 : w3.cell? ⟨g, 1, none⟩ = some (.slice none 0 0) := bG'.out.cell rfl
      have p2 : w3.cell? ⟨g, 2, none⟩ = some (.slice none 0 0) := bG'.out.cell rfl
      have y0 := bG'.out.frozen 0
      have y1 := bG'.out.frozen 1
      have y2 := bG'.out.frozen 2
      go_wp2_with fail
      have hbt := (((But.refl g w3).set 0 (.slice a1 tn c1)).set 1 (.slice none 0 0)).set 2 (.slice a3 bn c3)
      have hWg : WC.heap.size ≤ g := by rw [sC]; exact hNg
      have HS := Lib.hid (hsurj'.out _ (below_set3 hbxL'.out hWg (.slice a1 tn c1) (.slice none 0 0) (.slice a3 bn c3)))
      have bZ := bG'.out.set3 (.slice a1 tn c1) (.slice none 0 0) (.slice a3 bn c3)
      have htz := htaL'.out.butT hbt bG'.out
      have hcz := ck_butT hckL'.out hbt bG'.out (by decide)
      have hbz := below_set3 hbxL'.out hWg (.slice a1 tn c1) (.slice none 0 0) (.slice a3 bn c3)
      have bZ' := Lib.hid bZ
      have htz' := Lib.hid htz
      have hcz' := Lib.hid hcz
      have hbz' := Lib.hid hbz
      have hbt' := Lib.hid hbt
      clear bZ htz hcz hbz hbt
      first | refine Mid.mk ⟨HS.out, ?_⟩ | refine Mid.mk ?_
      refine held_last (by kernel_rfl) ?_
      go_wp2_with fail
      go_meet
      exact ⟨g, a1, c1, a3, c3, rfl, bZ', htz', hcz', Lib.hid hNg, hbz'⟩
  case rest =>
    obtain ⟨g, a1, c1, a3, c3, rfl, bG, hta, hck, hNg, hbx⟩ := hcut
    rename World => wq
    go_wp2_with fail
    go_loopw [4] (fun iv wr => ∃ (i : Nat) (as_ : Option Addr) (cs : Nat), i ≤ sn ∧ iv = .int .i64 i ∧ Hid (Blk wr g 42 #[.slice a1 tn c1, .slice as_ i cs, .slice a3 bn c3]) ∧ Hid (TagsAt noX (w.heap.size + 2) wr (.slice a1 tn c1) d.1) ∧ Hid (Ck noX (w.heap.size + 2) wr (.slice a3 bn c3) 5 1 bn (ints .u8 d.2.2)) ∧ Hid (SubsAt noX (w.heap.size + 2) wr f (.slice as_ i cs) (d.2.1.take i)) ∧ Hid (Below WC.heap.size WC wr)) (fun iv _ => sn - (intOf iv).toNat)
    case atStart => exact ⟨0, none, 0, by omega, rfl, bG, hta, hck, Lib.hid ⟨[], rfl, ⟨own_nil _ _ _ _, fun k e => by cases e⟩, (fun _ h => by cases h), (fun i h => by cases h)⟩, hbx⟩
    clear bG hta hck hbx
    case round =>
      obtain ⟨i, as_, cs, hi, rfl, bG, hta, hck, hsu, hbx⟩ := hrel
      have hNg2 := hNg.out
      have bAr := bA'.out.late hbx.out
      have bBr := bB'.out.late hbx.out
      have m1 : wr.cell? ⟨w.heap.size, 1, none⟩ = some (.slice sa sn sc) := bAr.cell rfl
      by_cases hlt : i < sn
      · have hil : (i : Int) < (sn : Int) := by omega
        have hi00 : (0 : Int) ≤ (i : Int) := by omega
        have hw1 : IntKind.i64.wrap ((i : Int) + 1) = i + 1 := by rw [IntKind.wrap_i64]; omega
        have hid : i < d.2.1.length := by rw [hsn'.out]; exact hlt
        have hids : i < ds.length := by rw [hdl'.out]; exact hid
        have hb0r := hb0C'.out.trans (hbx.out.mono hb0C'.out.size)
        obtain ⟨xb, xo, rfl, hblt, fe⟩ := hsl'.out.elem sbC_len (by decide) dz0 hlt
        rw [getD_el hids] at fe
        obtain ⟨hq1, hq2⟩ := hsub'.out i hids hid
        obtain ⟨ua, un, uc, pa, pn, pc, ra, rn, rc, hv⟩ := hq2.v
        have f0 := fe 0 _ rfl
        have f1 := fe 1 _ rfl
        have f2 := fe 2 _ rfl
        have f3 := fe 3 _ rfl
        simp only [Nat.add_zero] at f0 f1 f2 f3
        clear fe
        rw [hv] at hq2 f1 f2 f3
        rw [hq1] at f0
        simp only at f0 f1 f2 f3
        have hI := fun W (hW : Below w0.heap.size w0 W) => ih'.out w0 W d.2.1[i].2 _ hq2 hW (h4'.out _ (List.getElem_mem hid)) (hdt2'.out.2 _ (List.getElem_mem hid))
        simp only at hI
        have hnx : d.2.1.take (i + 1) = d.2.1.take i ++ [(d.2.1[i].1, d.2.1[i].2)] := List.take_succ_eq_append_getElem hid
        generalize d.2.1[i].2 = dd at *
        generalize d.2.1[i].1 = y at *
        have c1g : wr.cell? ⟨g, 1, none⟩ = some (.slice as_ i cs) := bG.out.cell rfl
        obtain ⟨Ty, ff, hne, hbel, hcel, hsurj⟩ := mix_worlds WC.heap.size WC ⟨g, 1, none⟩ (.slice as_ i cs) wr hbx.out c1g
        have HS := Lib.hid (hsurj wr.drew hbx.out.drew c1g)
        have hb0s := fun s => hb0C'.out.trans ((hbel s).mono hb0C'.out.size)
        have q0 : ∀ s, (ff s).cell? ⟨xb, xo + i * 4, none⟩ = some (.int .i64 y) := fun s => late (hb0s s) hblt f0
        have q1 : ∀ s, (ff s).cell? ⟨xb, xo + i * 4 + 1, none⟩ = some (.slice ua un uc) := fun s => late (hb0s s) hblt f1
        have q2 : ∀ s, (ff s).cell? ⟨xb, xo + i * 4 + 2, none⟩ = some (.slice pa pn pc) := fun s => late (hb0s s) hblt f2
        have q3 : ∀ s, (ff s).cell? ⟨xb, xo + i * 4 + 3, none⟩ = some (.slice ra rn rc) := fun s => late (hb0s s) hblt f3
        have q4 : ∀ s, (ff s).cell? ⟨w.heap.size, 1, none⟩ = some (.slice (some ⟨xb, xo, none⟩) sn sc) := fun s => (bA'.out.late (hbel s)).cell rfl
        clear f0 f1 f2 f3 c1g
        have hbel' := Lib.hid hbel
        have hsurj' := Lib.hid hsurj
        have hb0s' := Lib.hid hb0s
        have hq1' := Lib.hid hq1
        have hq2' := Lib.hid hq2
        have hv' := Lib.hid hv
        have hI' := Lib.hid hI
        have hnx' := Lib.hid hnx
        have bAr' := Lib.hid bAr
        have bBr' := Lib.hid bBr
        have hb0r' := Lib.hid hb0r
        clear hbel hsurj hb0s hq1 hq2 hv hI hnx bAr bBr hb0r
        go_wp2_with fail
        refine wp_noP ?_
        have HD := Lib.hid ((Below.refl wr.heap.size wr).drew)
        refine till_begin (t := 19) (C := fun W => ∃ s, W = ff s) (by kernel_rfl) 20 rfl ?_
        obtain ⟨wD, hwD⟩ : ∃ wD, wr.drew = wD := ⟨_, rfl⟩
        rw [hwD] at HS HD ⊢
        clear hwD
        refine till_take [0, 1, 2, 3, 4, 5, 6, 7, 8, 9, 10, 11, 12, 13] 6 (by kernel_rfl) noP_put (by kernel_rfl) (by kernel_rfl) (by kernel_rfl) HS.out ?_
        simp only [pickL, List.map_cons, List.map_nil, List.getD_cons_succ, List.getD_cons_zero]
        iterate 14 (go_big_quiet_step (fail))
        refine wpQuiet_nil ?_
        refine till_one 14 5 (by kernel_rfl) (by kernel_rfl) ?_
        simp only [pickL, List.map_cons, List.map_nil, List.getD_cons_succ, List.getD_cons_zero]
        go_wp2_with fail
        have hbxD := hbx.out.trans (HD.out.mono hbx.out.size)
        refine (hI'.out wD (hb0C'.out.trans (hbxD.mono hb0C'.out.size))).mono ?_
        rintro e w2 ⟨⟨v1, v2, v3⟩, rfl, hdir, hb2⟩
        have hb12 := HD.out.trans (hb2.mono HD.out.size)
        have hbx2 := hbx.out.trans (hb12.mono hbx.out.size)
        have bG2 := bG.out.late hb12
        have HS := Lib.hid (hsurj'.out w2 hbx2 (bG2.cell rfl))
        have hta2 := hta.out.keep (Kp.later hb12)
        have hck2 := hck.out.keep (Kp.later hb12)
        have hsu2 := hsu.out.keep (Kp.later hb12)
        have hDsz : w.heap.size + 2 ≤ wD.heap.size := by rw [← sC]; exact hbxD.size
        obtain ⟨a1', n1', c1', a2', n2', c2', a3', n3', c3', hvv⟩ := hdir.rd.v
        injection hvv with e1 e2
        injection e2 with e2 e3
        subst e1 e2 e3
        simp only
        have hwr2 : ∀ k, (Value.slice as_ i cs).ownBlock = some k → k < wD.heap.size := fun k e => by
          obtain ⟨_, _, h2, _⟩ := hsu.out
          exact Nat.lt_of_lt_of_le (h2.1.lt k e).2 HD.out.size
        have hb2' := Lib.hid hb2
        have hb12' := Lib.hid hb12
        have hbx2' := Lib.hid hbx2
        have bG2' := Lib.hid bG2
        have hta2' := Lib.hid hta2
        have hck2' := Lib.hid hck2
        have hsu2' := Lib.hid hsu2
        have hdir' := Lib.hid hdir
        have hbxD' := Lib.hid hbxD
        clear hb2 hb12 hbx2 bG2 hta2 hck2 hsu2 hdir hbxD
        go_wp2_with fail
        refine Mid.mk ⟨fun _ => HS.out, ?_⟩
        refine till_take [15] 4 (by kernel_rfl) noP_put (by kernel_rfl) (by kernel_rfl) (by kernel_rfl) HS.out ?_
        simp only [pickL, List.map_cons, List.map_nil, List.getD_cons_succ, List.getD_cons_zero]
        iterate 1 (go_big_quiet_step (fail))
        refine wpQuiet_nil ?_
        refine till_one 16 3 (by kernel_rfl) (by kernel_rfl) ?_
        simp only [pickL, List.map_cons, List.map_nil, List.getD_cons_succ, List.getD_cons_zero]
        go_wp2_with fail
        have hal := (Below.refl w2.heap.size w2).alloc (Nat.le_refl _) (.cells #[.int .i64 y, .slice a1' n1' c1', .slice a2' n2' c2', .slice a3' n3' c3'] 44)
        have hnew : Sl (w2.alloc (.cells #[.int .i64 y, .slice a1' n1' c1', .slice a2' n2' c2', .slice a3' n3' c3'] 44)) (some ⟨w2.heap.size, 0, none⟩) 1 1 4 (sbC (y, (.slice a1' n1' c1', .slice a2' n2' c2', .slice a3' n3' c3'))) := Sl.new w2 44 4 1 #[.int .i64 y, .slice a1' n1' c1', .slice a2' n2' c2', .slice a3' n3' c3'] (0, 0) (by omega) rfl
        have hbx4 := hbx2'.out.trans (hal.mono hbx2'.out.size)
        have bG4 := bG2'.out.late hal
        have HS := Lib.hid (hsurj'.out _ hbx4 (bG4.cell rfl))
        have hta4 := hta2'.out.keep (Kp.later hal)
        have hck4 := hck2'.out.keep (Kp.later hal)
        have hsu4 := hsu2'.out.keep (Kp.later hal)
        have hdir4 := hdir'.out.keep (Kp.later hal)
        obtain ⟨dsz, hds1, hds2, _, _⟩ := hsu4
        have hdn : dsz.length = i := by rw [hds1, List.length_take]; omega
        rw [hdn] at hds2
        have hown4 := hds2.1
        have hsu4 := hsu2'.out.keep (Kp.later hal)
        have hB4 : w.heap.size + 2 ≤ (w2.alloc (.cells #[.int .i64 y, .slice a1' n1' c1', .slice a2' n2' c2', .slice a3' n3' c3'] 44)).heap.size := by rw [← sC]; exact hbx4.size
        have hgne : (Value.slice as_ i cs).ownBlock ≠ some g := own_ne_blk hown4 bG4 (by decide)
        clear hds1 hds2
        have hal' := Lib.hid hal
        have hnew' := Lib.hid hnew
        have hbx4' := Lib.hid hbx4
        have bG4' := Lib.hid bG4
        have hta4' := Lib.hid hta4
        have hck4' := Lib.hid hck4
        have hsu4' := Lib.hid hsu4
        have hdir4' := Lib.hid hdir4
        have hown4' := Lib.hid hown4
        have hB4' := Lib.hid hB4
        have hgne' := Lib.hid hgne
        have hdn' := Lib.hid hdn
        clear hal hnew hbx4 bG4 hta4 hck4 hsu4 hdir4 hown4 hB4 hgne hdn
        refine Mid.mk ⟨fun _ => HS.out, ?_⟩
        refine till_one 17 2 (by kernel_rfl) (by kernel_rfl) ?_
        simp only [pickL, List.map_cons, List.map_nil, List.getD_cons_succ, List.getD_cons_zero]
        go_wp2_with (at_builtin; refine wpList_app2 rfl _ _ 40 rfl (w.heap.size + 2) 44 i0 z0 4 80 Tryz.underlying40 hi0 hz hz1 hz2 hz3 (by decide) (.slice as_ i cs) i _ rfl hown4'.out ⟨w2.heap.size, 0, none⟩ 1 1 (sbC (y, (.slice a1' n1' c1', .slice a2' n2' c2', .slice a3' n3' c3'))) rfl hnew'.out (sbC_sl _ _ _ _ _ _ _ _ _ _) (by omega) (by decide) hB4'.out ?_; intro a9 c9 w9 ob hg9 ho9; have Ob := Lib.hid ob; have Hg9 := Lib.hid hg9; have Ho9 := Lib.hid ho9; clear ob hg9 ho9)
        have bG9 := bG4'.out.grown Hg9.out hgne'.out
        have hbx9 : Below WC.heap.size WC w9 := below_grown hbx4'.out Hg9.out hbx4'.out.size (own_mono hown4'.out (by rw [sC]; exact Nat.le_refl _))
        have HS := Lib.hid (hsurj'.out _ hbx9 (bG9.cell rfl))
        have hta9 := own_tags_ne hta4'.out hown4'.out Hg9.out (by decide) (by decide)
        have hck9 : Ck noX (w.heap.size + 2) w9 (.slice a3 bn c3) 5 1 bn (ints .u8 d.2.2) := ⟨own_grown hck4'.out.1 Hg9.out (fun k hk hk2 => by
          rcases own_apart hck4'.out.1 hown4'.out (by decide) with h5 | h5
          · rw [h5] at hk; cases hk
          · exact h5 (hk.trans hk2.symm)), fun _ _ h => h⟩
        have hsu9 : SubsAt noX (w.heap.size + 2) w9 f (.slice a9 (i + 1) c9) (d.2.1.take i ++ [(y, dd)]) := SubsAt.snoc (t := y) (v' := .slice a9 (i + 1) c9) hsu4'.out (n := i) (by rw [List.length_take]; omega) Hg9.out Ho9.out (fun ds2 h2 => by rw [own_inj h2 hown4'.out]; exact Ob.out) (fun _ _ h => h) (dvC_sl _ _ _ _ _ _ _ _ _)
          ((hdir4'.out.keep (Kp.same (fun k hB hk _ hx => hx.elim (fun h => h) (fun e => by have := hwr2 k e; omega)))).mono hDsz)
        have p1 : w9.cell? ⟨g, 1, none⟩ = some (.slice as_ i cs) := bG9.cell rfl
        have y1 := bG9.frozen 1
        rw [← hnx'.out] at hsu9
        have bG9' := Lib.hid bG9
        have hbx9' := Lib.hid hbx9
        have hta9' := Lib.hid hta9
        have hck9' := Lib.hid hck9
        have hsu9' := Lib.hid hsu9
        clear bG9 hbx9 hta9 hck9 hsu9
        refine Mid.mk ⟨fun _ => HS.out, ?_⟩
        refine till_take [18] 1 (by kernel_rfl) noP_put (by kernel_rfl) (by kernel_rfl) (by kernel_rfl) HS.out ?_
        simp only [pickL, List.map_cons, List.map_nil, List.getD_cons_succ, List.getD_cons_zero]
        iterate 1 (go_big_quiet_step (fail))
        refine wpQuiet_nil ?_
        refine till_one 19 0 (by kernel_rfl) (by kernel_rfl) ?_
        simp only [pickL, List.map_cons, List.map_nil, List.getD_cons_succ, List.getD_cons_zero]
        go_wp2_with fail
        have hbt := (But.refl g w9).set 1 (.slice a9 (i + 1) c9)
        have bZ := bG9'.out.set 1 (.slice a9 (i + 1) c9)
        have htz := hta9'.out.butT hbt bG9'.out
        have hcz := ck_butT hck9'.out hbt bG9'.out (by decide)
        have hsz := hsu9'.out.butT hbt bG9'.out
        have hbz : Below WC.heap.size WC (w9.setCell ⟨g, 1, none⟩ (.slice a9 (i + 1) c9)) := hbx9'.out.setCell (by show WC.heap.size ≤ g; omega) _
        clear p1 y1 hbt
        have bZ' := Lib.hid bZ
        have htz' := Lib.hid htz
        have hcz' := Lib.hid hcz
        have hsz' := Lib.hid hsz
        have hbz' := Lib.hid hbz
        clear bZ htz hcz hsz hbz
        first | refine Mid.mk ⟨(fun h => by cases h), ?_⟩ | refine Mid.mk ⟨(fun h => absurd h (by decide)), ?_⟩
        refine till_last (by kernel_rfl) ?_
        refine noP_normal ?_
        go_wp2_with fail
        go_roundw
        case rel => exact ⟨i + 1, a9, c9, by omega, by go_num, bZ', htz', hcz', hsz', hbz'⟩
        case measure => simp [intOf]; omega
      · obtain rfl : i = sn := by omega
        rw [List.take_of_length_le (by rw [hsn'.out]; exact Nat.le_refl _)] at hsu
        have k0 : wr.cell? ⟨g, 0, none⟩ = some (.slice a1 tn c1) := bG.out.cell rfl
        have k1 : wr.cell? ⟨g, 1, none⟩ = some (.slice as_ i cs) := bG.out.cell rfl
        have k2 : wr.cell? ⟨g, 2, none⟩ = some (.slice a3 bn c3) := bG.out.cell rfl
        have r0 : wr.cell? ⟨w.heap.size + 1, 0, none⟩ = some (.slice none 0 0) := bBr.cell rfl
        have r1 : wr.cell? ⟨w.heap.size + 1, 1, none⟩ = some (.slice none 0 0) := bBr.cell rfl
        have r2 : wr.cell? ⟨w.heap.size + 1, 2, none⟩ = some (.slice none 0 0) := bBr.cell rfl
        have y0 := bBr.frozen 0
        have y1 := bBr.frozen 1
        have y2 := bBr.frozen 2
        have hbwr := hbC'.out.trans (hbx.out.mono hbC'.out.size)
        have bAr' := Lib.hid bAr
        have bBr' := Lib.hid bBr
        have hbwr' := Lib.hid hbwr
        clear bAr bBr hbwr
        go_wp2_with fail
        have hbt := (((But.refl (w.heap.size + 1) wr).set 0 (.slice a1 tn c1)).set 1 (.slice as_ i cs)).set 2 (.slice a3 bn c3)
        refine bodyPost_ret (results_cell_row rfl _ _ (w.heap.size + 1) 42 #[.slice a1 tn c1, .slice as_ i cs, .slice a3 bn c3] (0, 0) _ rfl (bBr'.out.set3 _ _ _) Tryz.underlying42 rfl (by kernel_rfl)) rfl ?_
        have hcz := ck_butT hck.out hbt bBr'.out (by decide)
        exact ⟨(.slice a1 tn c1, .slice as_ i cs, .slice a3 bn c3), rfl, dir_at (hta.out.butT hbt bBr'.out) (hsu.out.butT hbt bBr'.out) (by rw [hbn'.out]; exact hcz) (by omega) (by omega), below_set3 hbwr'.out (by omega) _ _ _⟩
theorem rown_any : ∀ f, ROwn f := by
  intro f
  induction f with
  | zero => intro w0 w d dv hd; exact hd.elim
  | succ f ih => exact rown_step f ih
end Go.Proofs.YtilennmeiaehnaaGreat
