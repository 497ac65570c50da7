/- Chapter 20: a tree in memory of its own: the document. -/
import Derived.Test.YtilennmeiaehnaaGreatCw31
namespace Go.Proofs.YtilennmeiaehnaaGreat
open Go.RowKit Tt
set_option linter.unusedVariables false
set_option linter.unusedSimpArgs false

theorem DirAt.ne {X : Nat → Prop} {B B2 : Nat} {w w' : World} {u : Value} {n : Nat} {xs : List Value} (hu : w.ownsRow B2 42 3 u n xs) (hg : w.grownBy w' u.ownBlock) : ∀ {f : Nat} {d : DirT f} {v : Dz}, DirAt X B w f d v → DirAt X B w' f d v
  | 0, _, _, h => h.elim
  | f + 1, d, v, h => by
    have key : ∀ {T : TypeId} {v' : Value} {s n : Nat} {ys : List Value}, Ck X B w v' T s n ys → T ≠ 42 → Ck X B w' v' T s n ys := fun h hT => ⟨own_grown h.1 hg (fun k hk hk2 => by
      rcases own_apart h.1 hu hT with h5 | h5
      · rw [h5] at hk; cases hk
      · exact h5 (hk.trans hk2.symm)), h.2⟩
    obtain ⟨h0, ⟨zs, g1, g2, g3⟩, ⟨ds, h2, h3, h4⟩, h5⟩ := h
    exact ⟨h0, ⟨zs, g1, key g2 (by decide), fun z hz => key (g3 z hz) (by decide)⟩, ⟨ds, h2, key h3 (by decide), fun i hi hi' => ⟨(h4 i hi hi').1, (h4 i hi hi').2.ne hu hg⟩⟩, key h5 (by decide)⟩
theorem DirAt.butE {X : Nat → Prop} {B g : Nat} {w w' : World} {cs : Array Value} (b : But g w w') (hb : Blk w g 24 cs) : ∀ {f : Nat} {d : DirT f} {v : Dz}, DirAt X B w f d v → DirAt X B w' f d v
  | 0, _, _, h => h.elim
  | f + 1, d, v, h => by
    obtain ⟨h0, ⟨zs, g1, g2, g3⟩, ⟨ds, h2, h3, h4⟩, h5⟩ := h
    exact ⟨h0, ⟨zs, g1, ck_butT g2 b hb (by decide), fun z hz => ck_butT (g3 z hz) b hb (by decide)⟩, ⟨ds, h2, ck_butT h3 b hb (by decide), fun i hi hi' => ⟨(h4 i hi hi').1, (h4 i hi hi').2.butE b hb⟩⟩, ck_butT h5 b hb (by decide)⟩
/-- directories in memory of their own -/
def DirsO (B : Nat) (w : World) (f : Nat) (v : Value) (ds : List (DirT f)) : Prop :=
  ∃ dvs : List Dz, dvs.length = ds.length ∧ w.ownsRow B 42 3 v dvs.length (fl dvC dvs) ∧ ∀ i (h : i < dvs.length) (h' : i < ds.length), DirAt noX B w f ds[i] dvs[i]
theorem DirsO.later {B f : Nat} {w w' : World} {v : Value} {ds : List (DirT f)} (h : DirsO B w f v ds) (hb : Below w.heap.size w w') : DirsO B w' f v ds := by
  obtain ⟨dvs, h1, h2, h3⟩ := h
  exact ⟨dvs, h1, own_later h2 hb, fun i hi hi' => (h3 i hi hi').keep (Kp.later hb)⟩
theorem DirsO.butE {B g f : Nat} {w w' : World} {v : Value} {ds : List (DirT f)} {cs : Array Value} (h : DirsO B w f v ds) (b : But g w w') (hb : Blk w g 24 cs) : DirsO B w' f v ds := by
  obtain ⟨dvs, h1, h2, h3⟩ := h
  exact ⟨dvs, h1, own_but h2 b (own_ne_blk h2 hb (by decide)), fun i hi hi' => (h3 i hi hi').butE b hb⟩
theorem DirsO.rd {B f : Nat} {w : World} {a : Option Addr} {n c : Nat} {ds : List (DirT f)} (h : DirsO B w f (.slice a n c) ds) : DirsR f w a n c ds := by
  obtain ⟨dvs, h1, h2, h3⟩ := h
  exact ⟨dvs, h1, (Sl.of_own h2).1, fun i hi hi' => (h3 i hi hi').rd⟩
theorem DirsO.snoc {B f : Nat} {w w' : World} {v v' : Value} {ds : List (DirT f)} {d : DirT f} {dz : Dz} {n : Nat} (h : DirsO B w f v ds) (hn : ds.length = n) (hg : w.grownBy w' v.ownBlock)
    (ob : ∀ dvs : List Dz, w.ownsRow B 42 3 v n (fl dvC dvs) → w'.ownsRow B 42 3 v' (n + 1) (fl dvC dvs ++ dvC dz)) (hd : DirAt noX B w f d dz) : DirsO B w' f v' (ds ++ [d]) := by
  obtain ⟨dvs, h2, h3, h4⟩ := h
  have hdn : dvs.length = n := h2.trans hn
  refine ⟨dvs ++ [dz], by simp [h2], ?_, fun i hi hi' => ?_⟩
  · rw [List.length_append, fl_snoc, List.length_singleton, hdn]
    exact ob dvs (by rw [← hdn]; exact h3)
  · by_cases hi2 : i < dvs.length
    · rw [List.getElem_append_left hi2, List.getElem_append_left (by omega)]
      exact (h4 i hi2 (by omega)).ne h3 hg
    · have hie : i = dvs.length := by simp at hi; omega
      subst hie
      rw [List.getElem_append_right (Nat.le_refl _), List.getElem_append_right (by omega)]
      simp only [Nat.sub_self, List.getElem_cons_zero, h2]
      exact hd.ne h3 hg
theorem dvC_sl3 (a1 a2 a3 : Option Addr) (n1 n2 n3 c1 c2 c3 : Nat) : ∀ u ∈ dvC (.slice a1 n1 c1, .slice a2 n2 c2, .slice a3 n3 c3), u.oneCell' = true := by
  intro u hu
  simp only [dvC, List.mem_cons, List.not_mem_nil, or_false] at hu
  rcases hu with rfl | rfl | rfl <;> rfl
set_option maxRecDepth 20000 in
set_option maxHeartbeats 4000000 in
theorem rtown_any (f : Nat) (o : Int) (sa : Option Addr) (sn sc : Nat) (ds : List (DirT f)) (w : World) (h : DirsR f w sa sn sc ds) (hs : ∀ d ∈ ds, smallD f d) (hdt : ∀ d ∈ ds, dataD f d) (hsn6 : sn ≤ 6) :
    Calls Tryz.prog 12 #[.agg #[.int .i64 o, .slice sa sn sc]] w fun e w' => ∃ a' c', e = .returned (.agg #[.int .i64 o, .slice a' sn c']) ∧ DirsO w.heap.size w' f (.slice a' sn c') ds ∧ Below w.heap.size w w' := by
  obtain ⟨i0, z0, hi0, hz, hz1, hz2, hz3⟩ := info_of dirI1 dirI2
  obtain ⟨dvs, hdl, hsl, hsub⟩ := h
  have hsn : ds.length = sn := by rw [← hdl]; exact hsl.flen dvC_len (by decide)
  obtain ⟨WC, hWC, bA, bB, bG, hbC, sC⟩ := three_boxes w 24 #[.int .i64 o, .slice sa sn sc] 24 #[.int .i64 0, .slice none 0 0] 24 #[.int .i64 o, .slice none 0 0]
  have hsl' := Lib.hid hsl
  have hdl' := Lib.hid hdl
  have hsub' := Lib.hid hsub
  have hs' := Lib.hid hs
  have hdt' := Lib.hid hdt
  have hsn' := Lib.hid hsn
  have hWC' := Lib.hid hWC
  have bA' := Lib.hid bA
  have bB' := Lib.hid bB
  have bG' := Lib.hid bG
  have hbC' := Lib.hid hbC
  clear hsl hdl hsub hs hdt hsn hWC bA bB bG hbC
  go_enter Tryz.func12, Tryz.ntmps12
  go_wp2_with fail
  rw [hWC'.out]
  go_loopw [4] (fun iv wr => ∃ (i : Nat) (as_ : Option Addr) (cs : Nat), i ≤ sn ∧ iv = .int .i64 i ∧ Hid (Blk wr (w.heap.size + 2) 24 #[.int .i64 o, .slice as_ i cs]) ∧ Hid (DirsO (w.heap.size + 2) wr f (.slice as_ i cs) (ds.take i)) ∧ Hid (Below (w.heap.size + 2) WC wr)) (fun iv _ => sn - (intOf iv).toNat)
  case atStart => exact ⟨0, none, 0, by omega, rfl, bG', Lib.hid ⟨[], rfl, own_nil _ _ _ _, (fun i h => by cases h)⟩, Lib.hid (Below.refl _ _)⟩
  case round =>
    obtain ⟨i, as_, cs, hi, rfl, bG, hds, hbx⟩ := hrel
    have bAr := bA'.out.mono hbx.out (by omega)
    have bBr := bB'.out.mono hbx.out (by omega)
    have hgl := bG.out.lt
    have m1 : wr.cell? ⟨w.heap.size, 1, none⟩ = some (.slice sa sn sc) := bAr.cell rfl
    have hbwr := hbC'.out.trans (hbx.out.mono (by omega))
    by_cases hlt : i < sn
    · have hil : (i : Int) < (sn : Int) := by omega
      have hi00 : (0 : Int) ≤ (i : Int) := by omega
      have hw1 : IntKind.i64.wrap ((i : Int) + 1) = i + 1 := by rw [IntKind.wrap_i64]; omega
      have hid : i < ds.length := by rw [hsn'.out]; exact hlt
      have hids : i < dvs.length := by rw [hdl'.out]; exact hid
      obtain ⟨xb, xo, rfl, hblt, fe⟩ := hsl'.out.elem dvC_len (by decide) dzz hlt
      rw [getD_el hids] at fe
      have hq2 := hsub'.out i hids hid
      obtain ⟨ua, un, uc, pa, pn, pc, ra, rn, rc, hv⟩ := hq2.v
      have f1 := fe 0 _ rfl
      have f2 := fe 1 _ rfl
      have f3 := fe 2 _ rfl
      simp only [Nat.add_zero] at f1 f2 f3
      clear fe
      rw [hv] at hq2 f1 f2 f3
      simp only at f1 f2 f3
      have hI := fun W (hW : Below w.heap.size w W) => rown_any f w W ds[i] _ hq2 hW (hs'.out _ (List.getElem_mem hid)) (hdt'.out _ (List.getElem_mem hid))
      simp only at hI
      have hnx : ds.take (i + 1) = ds.take i ++ [ds[i]] := List.take_succ_eq_append_getElem hid
      generalize ds[i] = dd at *
      have c1g : wr.cell? ⟨w.heap.size + 2, 1, none⟩ = some (.slice as_ i cs) := bG.out.cell rfl
      obtain ⟨Ty, ff, hne, hbel, hcel, hsurj⟩ := mix_worlds (w.heap.size + 2) WC ⟨w.heap.size + 2, 1, none⟩ (.slice as_ i cs) wr hbx.out c1g
      have HS := Lib.hid (hsurj wr.drew hbx.out.drew c1g)
      have hb0s := fun s => hbC'.out.trans ((hbel s).mono (show w.heap.size ≤ w.heap.size + 2 by omega))
      have q1 : ∀ s, (ff s).cell? ⟨xb, xo + i * 3, none⟩ = some (.slice ua un uc) := fun s => late (hb0s s) hblt f1
      have q2 : ∀ s, (ff s).cell? ⟨xb, xo + i * 3 + 1, none⟩ = some (.slice pa pn pc) := fun s => late (hb0s s) hblt f2
      have q3 : ∀ s, (ff s).cell? ⟨xb, xo + i * 3 + 2, none⟩ = some (.slice ra rn rc) := fun s => late (hb0s s) hblt f3
      have q4 : ∀ s, (ff s).cell? ⟨w.heap.size, 1, none⟩ = some (.slice (some ⟨xb, xo, none⟩) sn sc) := fun s => (bA'.out.mono (hbel s) (by omega)).cell rfl
      clear f1 f2 f3 c1g
      have hbel' := Lib.hid hbel
      have hsurj' := Lib.hid hsurj
      have hb0s' := Lib.hid hb0s
      have hq2' := Lib.hid hq2
      have hv' := Lib.hid hv
      have hI' := Lib.hid hI
      have hnx' := Lib.hid hnx
      have bAr' := Lib.hid bAr
      have bBr' := Lib.hid bBr
      have hbwr' := Lib.hid hbwr
      clear hbel hsurj hb0s hq2 hv hI hnx bAr bBr hbwr
      go_wp2_with fail
      refine wp_noP ?_
      have HD := Lib.hid ((Below.refl wr.heap.size wr).drew)
      refine till_begin (t := 11) (C := fun W => ∃ s, W = ff s) (by kernel_rfl) 12 rfl ?_
      obtain ⟨wD, hwD⟩ : ∃ wD, wr.drew = wD := ⟨_, rfl⟩
      rw [hwD] at HS HD ⊢
      clear hwD
      refine till_take [0, 1, 2, 3, 4, 5, 6] 5 (by kernel_rfl) noP_put (by kernel_rfl) (by kernel_rfl) (by kernel_rfl) HS.out ?_
      simp only [pickL, List.map_cons, List.map_nil, List.getD_cons_succ, List.getD_cons_zero]
      iterate 7 (go_big_quiet_step (fail))
      refine wpQuiet_nil ?_
      refine till_one 7 4 (by kernel_rfl) (by kernel_rfl) ?_
      simp only [pickL, List.map_cons, List.map_nil, List.getD_cons_succ, List.getD_cons_zero]
      go_wp2_with fail
      refine (hI'.out wD (hbwr'.out.trans (HD.out.mono hbwr'.out.size))).mono ?_
      rintro e w2 ⟨⟨v1, v2, v3⟩, rfl, hdir, hb2⟩
      have hb12 := HD.out.trans (hb2.mono HD.out.size)
      have hbx2 := hbx.out.trans (hb12.mono (by omega))
      have bG2 := bG.out.late hb12
      have HS := Lib.hid (hsurj'.out w2 hbx2 (bG2.cell rfl))
      have hds2 := hds.out.later hb12
      have hDsz : w.heap.size + 2 ≤ wD.heap.size := Nat.le_trans (by omega) HD.out.size
      obtain ⟨a1', n1', c1', a2', n2', c2', a3', n3', c3', hvv⟩ := hdir.rd.v
      injection hvv with e1 e2
      injection e2 with e2 e3
      subst e1 e2 e3
      have hdir2 := hdir.mono hDsz
      clear hdir
      simp only
      have hb2' := Lib.hid hb2
      have hb12' := Lib.hid hb12
      have hbx2' := Lib.hid hbx2
      have bG2' := Lib.hid bG2
      have hds2' := Lib.hid hds2
      have hdir2' := Lib.hid hdir2
      clear hb2 hb12 hbx2 bG2 hds2 hdir2
      go_wp2_with fail
      refine Mid.mk ⟨fun _ => HS.out, ?_⟩
      refine till_one 8 3 (by kernel_rfl) (by kernel_rfl) ?_
      simp only [pickL, List.map_cons, List.map_nil, List.getD_cons_succ, List.getD_cons_zero]
      go_wp2_with fail
      have hal := (Below.refl w2.heap.size w2).alloc (Nat.le_refl _) (.cells #[.slice a1' n1' c1', .slice a2' n2' c2', .slice a3' n3' c3'] 42)
      have hnew : Sl (w2.alloc (.cells #[.slice a1' n1' c1', .slice a2' n2' c2', .slice a3' n3' c3'] 42)) (some ⟨w2.heap.size, 0, none⟩) 1 1 3 (dvC (.slice a1' n1' c1', .slice a2' n2' c2', .slice a3' n3' c3')) := Sl.new w2 42 3 1 #[.slice a1' n1' c1', .slice a2' n2' c2', .slice a3' n3' c3'] (0, 0) (by omega) rfl
      have hsz2 : w.heap.size + 2 ≤ w2.heap.size := Nat.le_trans hDsz hb2'.out.size
      have hbx4 := hbx2'.out.trans (hal.mono hsz2)
      have bG4 := bG2'.out.late hal
      have HS := Lib.hid (hsurj'.out _ hbx4 (bG4.cell rfl))
      have hds4 := hds2'.out.later hal
      have hdir4 := hdir2'.out.keep (Kp.later hal)
      obtain ⟨dsz, hds1, hown4, _⟩ := hds4
      have hdn : dsz.length = i := by rw [hds1, List.length_take]; omega
      rw [hdn] at hown4
      have hds4 := hds2'.out.later hal
      have hB4 : w.heap.size + 2 ≤ (w2.alloc (.cells #[.slice a1' n1' c1', .slice a2' n2' c2', .slice a3' n3' c3'] 42)).heap.size := by simp; omega
      have hgne : (Value.slice as_ i cs).ownBlock ≠ some (w.heap.size + 2) := own_ne_blk hown4 bG4 (by decide)
      clear hds1
      have hal' := Lib.hid hal
      have hnew' := Lib.hid hnew
      have hbx4' := Lib.hid hbx4
      have bG4' := Lib.hid bG4
      have hds4' := Lib.hid hds4
      have hdir4' := Lib.hid hdir4
      have hown4' := Lib.hid hown4
      have hB4' := Lib.hid hB4
      have hgne' := Lib.hid hgne
      have hdn' := Lib.hid hdn
      clear hal hnew hbx4 bG4 hds4 hdir4 hown4 hB4 hgne hdn
      refine Mid.mk ⟨fun _ => HS.out, ?_⟩
      refine till_one 9 2 (by kernel_rfl) (by kernel_rfl) ?_
      simp only [pickL, List.map_cons, List.map_nil, List.getD_cons_succ, List.getD_cons_zero]
      go_wp2_with (at_builtin; refine wpList_app2 rfl _ _ 22 rfl (w.heap.size + 2) 42 i0 z0 3 72 Tryz.underlying22 hi0 hz hz1 hz2 hz3 (by decide) (.slice as_ i cs) i _ rfl hown4'.out ⟨w2.heap.size, 0, none⟩ 1 1 (dvC (.slice a1' n1' c1', .slice a2' n2' c2', .slice a3' n3' c3')) rfl hnew'.out (dvC_sl3 _ _ _ _ _ _ _ _ _) (by omega) (by decide) hB4'.out ?_; intro a9 c9 w9 ob hg9 ho9; have Ob := Lib.hid ob; have Hg9 := Lib.hid hg9; have Ho9 := Lib.hid ho9; clear ob hg9 ho9)
      have bG9 := bG4'.out.grown Hg9.out hgne'.out
      have hbx9 : Below (w.heap.size + 2) WC w9 := below_grown hbx4'.out Hg9.out hB4'.out hown4'.out
      have HS := Lib.hid (hsurj'.out _ hbx9 (bG9.cell rfl))
      have hds9 : DirsO (w.heap.size + 2) w9 f (.slice a9 (i + 1) c9) (ds.take i ++ [dd]) := DirsO.snoc (v' := .slice a9 (i + 1) c9) hds4'.out (n := i) (by rw [List.length_take]; omega) Hg9.out (fun ds2 h2 => by rw [own_inj h2 hown4'.out]; exact Ob.out) hdir4'.out
      have p1 : w9.cell? ⟨w.heap.size + 2, 1, none⟩ = some (.slice as_ i cs) := bG9.cell rfl
      have y1 := bG9.frozen 1
      rw [← hnx'.out] at hds9
      have bG9' := Lib.hid bG9
      have hbx9' := Lib.hid hbx9
      have hds9' := Lib.hid hds9
      clear bG9 hbx9 hds9
      refine Mid.mk ⟨fun _ => HS.out, ?_⟩
      refine till_take [10] 1 (by kernel_rfl) noP_put (by kernel_rfl) (by kernel_rfl) (by kernel_rfl) HS.out ?_
      simp only [pickL, List.map_cons, List.map_nil, List.getD_cons_succ, List.getD_cons_zero]
      iterate 1 (go_big_quiet_step (fail))
      refine wpQuiet_nil ?_
      refine till_one 11 0 (by kernel_rfl) (by kernel_rfl) ?_
      simp only [pickL, List.map_cons, List.map_nil, List.getD_cons_succ, List.getD_cons_zero]
      go_wp2_with fail
      have hbt := (But.refl (w.heap.size + 2) w9).set 1 (.slice a9 (i + 1) c9)
      have bZ := bG9'.out.set 1 (.slice a9 (i + 1) c9)
      have hdz := hds9'.out.butE hbt bG9'.out
      have hbz : Below (w.heap.size + 2) WC (w9.setCell ⟨w.heap.size + 2, 1, none⟩ (.slice a9 (i + 1) c9)) := hbx9'.out.setCell (Nat.le_refl _) _
      clear p1 y1 hbt
      have bZ' := Lib.hid bZ
      have hdz' := Lib.hid hdz
      have hbz' := Lib.hid hbz
      clear bZ hdz hbz
      first | refine Mid.mk ⟨(fun h => by cases h), ?_⟩ | refine Mid.mk ⟨(fun h => absurd h (by decide)), ?_⟩
      refine till_last (by kernel_rfl) ?_
      refine noP_normal ?_
      go_wp2_with fail
      go_roundw
      case rel => exact ⟨i + 1, a9, c9, by omega, by go_num, bZ', hdz', hbz'⟩
      case measure => simp [intOf]; omega
    · obtain rfl : i = sn := by omega
      rw [List.take_of_length_le (by rw [hsn'.out]; exact Nat.le_refl _)] at hds
      have k0 : wr.cell? ⟨w.heap.size + 2, 0, none⟩ = some (.int .i64 o) := bG.out.cell rfl
      have k1 : wr.cell? ⟨w.heap.size + 2, 1, none⟩ = some (.slice as_ i cs) := bG.out.cell rfl
      have r0 : wr.cell? ⟨w.heap.size + 1, 0, none⟩ = some (.int .i64 0) := bBr.cell rfl
      have r1 : wr.cell? ⟨w.heap.size + 1, 1, none⟩ = some (.slice none 0 0) := bBr.cell rfl
      have y0 := bBr.frozen 0
      have y1 := bBr.frozen 1
      have bAr' := Lib.hid bAr
      have bBr' := Lib.hid bBr
      have hbwr' := Lib.hid hbwr
      clear bAr bBr hbwr
      go_wp2_with fail
      have hbt := ((But.refl (w.heap.size + 1) wr).set 0 (.int .i64 o)).set 1 (.slice as_ i cs)
      have b2 := (bBr'.out.set 0 (.int .i64 o)).set 1 (.slice as_ i cs)
      refine bodyPost_ret (results_cell_row rfl _ _ (w.heap.size + 1) 24 #[.int .i64 o, .slice as_ i cs] (0, 0) _ rfl b2 Tryz.underlying24 rfl (by kernel_rfl)) rfl ?_
      obtain ⟨dvs2, j1, j2, j3⟩ := hds.out.butE hbt bBr'.out
      exact ⟨as_, cs, rfl, ⟨dvs2, j1, own_mono j2 (by omega), fun k hk hk' => (j3 k hk hk').mono (by omega)⟩, (hbwr'.out.setCell (p := ⟨w.heap.size + 1, 0, none⟩) (by show w.heap.size ≤ w.heap.size + 1; omega) _).setCell (p := ⟨w.heap.size + 1, 1, none⟩) (by show w.heap.size ≤ w.heap.size + 1; omega) _⟩
end Go.Proofs.YtilennmeiaehnaaGreat
