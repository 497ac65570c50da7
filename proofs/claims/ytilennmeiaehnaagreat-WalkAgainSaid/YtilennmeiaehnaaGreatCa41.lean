/- Chapter 22: the walker reads a directory. -/
import Derived.Test.YtilennmeiaehnaaGreatCa36
namespace Go.Proofs.YtilennmeiaehnaaGreat
open Go.RowKit Tt
set_option linter.unusedVariables false
set_option linter.unusedSimpArgs false

theorem restE_cons {sh : Shp} {es : List Ent} {i : Nat} (h : i < es.length) : restE sh (es.drop i) = if ownP sh (es.getD i (0, 0, 0, 0)).1 = true then restE sh (es.drop (i + 1)) else es.getD i (0, 0, 0, 0) :: restE sh (es.drop (i + 1)) := by
  unfold restE; rw [List.drop_eq_getElem_cons h, List.filter_cons, getD_el h]
  cases hp : ownP sh es[i].1 <;> simp [hp]
theorem restE_not {sh : Shp} {es : List Ent} {x : Ent} {r : List Ent} (h : restE sh es = x :: r) : ownP sh x.1 = false := by
  have : x ∈ restE sh es := by rw [h]; simp
  unfold restE at this; have h2 := (List.mem_filter.1 this).2
  simpa using h2
theorem entsS_mem {z : List Int} (hb : Byt z) {o p : Int} {k : Nat} {x : Ent} (h : x ∈ entsS z o p k) : 0 ≤ x.2.2.2 ∧ x.2.2.2 ≤ 4294967295 := by
  unfold entsS at h; obtain ⟨i, _, rfl⟩ := List.mem_map.1 h; have := getV_lt hb (p + 2 + 12 * i + 8) 4 o; rw [show ((4 : Nat) : Int) = 4 from rfl, show (256 : Int) ^ 4 = 4294967296 by decide] at this; exact ⟨this.1, by have := this.2; show getV z (p + 2 + 12 * i + 8) 4 o ≤ _; omega⟩
theorem entriesS_l {z : List Int} {o p no : Int} {s : St} {l : List Ent} {s' : St} (h : entriesS z o p no s = .ok (l, s')) : l = entsS z o p l.length ∧ 1 ≤ l.length ∧ l.length < 65536 ∨ ¬ Byt z := by
  by_cases hb : Byt z
  · refine .inl ?_
    unfold entriesS at h
    split at h
    · split at h
      · rename_i h0
        cases ht : takeS z.length (2, no, 0, p, 6 + 12 * getV z p 2 o) s with
        | error e => rw [ht] at h; cases h
        | ok s1 =>
          rw [ht] at h; simp only at h
          split at h
          · injection h with h
            injection h with h1 h2; have hv := getV_lt hb p 2 o; rw [show ((2 : Nat) : Int) = 2 from rfl, show (256 : Int) ^ 2 = 65536 by decide] at hv; rw [← h1, entsS_len]; exact ⟨rfl, by omega, by omega⟩
          · cases h
      · cases h
    · cases h
  · exact .inr hb
theorem loopS_toE {f : Nat} {rec : Int → Int → St → Except Int ((DirT f × Int) × St)} {sh : Shp} : ∀ {l : List Ent} {acc : List (Int × DirT f) × St}, loopS (stepD rec sh) l acc = loopS (stepD rec sh) (toE sh l) acc
  | [], acc => rfl
  | x :: r, acc => by
    unfold toE; rw [List.filter_cons]
    by_cases h : linkP sh x.1 = true
    · rw [if_pos h]
      simp only [loopS]
      cases stepD rec sh acc x with
      | error e => rfl
      | ok a => exact loopS_toE
    · rw [if_neg h]
      have e : stepD rec sh acc x = .ok acc := by unfold stepD; rw [if_neg h]
      rw [loopS_cons_ok e]; exact loopS_toE
theorem blobS_two {z : List Int} {sh : Shp} {l : List Ent} {x y : Ent} {no : Int} {s : St} (h : pairE sh l = [x, y]) : blobS z sh l no s = if 0 < y.2.2.2 then
      match takeS z.length (4, no, 0, x.2.2.2, y.2.2.2) s with
      | .error e => .error e
      | .ok s' => .ok ((z.drop x.2.2.2.toNat).take y.2.2.2.toNat, s')
    else .error 6 := by
  unfold blobS; rw [show l.filter (fun x => !linkP sh x.1 && pairP sh x.1) = [x, y] from h]
  rfl
theorem blobS_not {z : List Int} {sh : Shp} {l : List Ent} {no : Int} {s : St} (h : (pairE sh l).length ≠ 2) : blobS z sh l no s = .ok ([], s) := by
  unfold blobS
  split
  · rename_i h2
    exact absurd (show (pairE sh l).length = 2 by rw [show pairE sh l = _ from h2]; rfl) h
  · rfl
theorem infoTa : (Tryz.prog.info? 78).map (fun i => (i.size, i.bytes)) = some (4, 48) := by kernel_rfl
theorem infoTaz : (Tryz.prog.info? 78).map (fun i => i.zero.map (fun z => z.cells.size)) = some (some 4) := by kernel_rfl
theorem infoSu : (Tryz.prog.info? 44).map (fun i => (i.size, i.bytes)) = some (4, 80) := by kernel_rfl
theorem infoSuz : (Tryz.prog.info? 44).map (fun i => i.zero.map (fun z => z.cells.size)) = some (some 4) := by kernel_rfl
set_option maxRecDepth 30000 in
set_option maxHeartbeats 40000000 in
theorem dir_step (K : WkS) (t : WkT K) (ho : K.o = 1 ∨ K.o = 2) (hval : shapesB (shps K.zs) = true) (f : Nat)
    (IH : ∀ (p : Int) (sh : Nat) (s : St) (sv : Value) (tk : List Nat) (w : World), WkOk K s sv tk w → Inv K.n s → 0 ≤ p → p ≤ 4294967295 → sh < K.sn → K.sn ≤ sh + f →
      Calls Tryz.prog 124 #[.pointer (some ⟨K.g, 0, none⟩), .int .i64 p, .int .i64 sh] w (WPost K sv w (dirS K.z K.o (shps K.zs) f p sh s) (DirIs f w)))
    (p : Int) (sh : Nat) (s : St) (sv : Value) (tk : List Nat) (w : World) (hok : WkOk K s sv tk w) (hinv : Inv K.n s) (h0 : 0 ≤ p) (h1 : p ≤ 4294967295) (hshn : sh < K.sn) (hshf : K.sn ≤ sh + (f + 1)) :
    Calls Tryz.prog 124 #[.pointer (some ⟨K.g, 0, none⟩), .int .i64 p, .int .i64 sh] w (WPost K sv w (dirS K.z K.o (shps K.zs) (f + 1) p sh s) (DirIs (f + 1) w)) := by
    have hn := t.n1; have hzl := t.hs.ilen; have hsl := t.hsh.len; obtain ⟨R, hR⟩ : ∃ R, dirS K.z K.o (shps K.zs) (f + 1) p sh s = R := ⟨_, rfl⟩; rw [hR]; simp only [dirS] at hR; rw [Int.toNat_natCast, shps_get (by rw [hsl]; exact hshn)] at hR; obtain ⟨zz, hzz⟩ : ∃ z, K.zs.getD sh shz0 = z := ⟨_, rfl⟩; have hlk0 := t.hsh.at hshn; rw [hzz] at hR hlk0; obtain ⟨⟨la, ln, lc⟩, ⟨lks, sat, slong, snx⟩⟩ := zz; simp only at hR hlk0
    -- the directory's variable, the shape's copy
    have bD0 := Blk.new w 42 #[.slice none 0 0, .slice none 0 0, .slice none 0 0]; have hbA := (Below.refl w.heap.size w).alloc (Nat.le_refl _) (.cells #[.slice none 0 0, .slice none 0 0, .slice none 0 0] 42); have hokA := hok.later hbA; have hszA : (w.alloc (.cells #[.slice none 0 0, .slice none 0 0, .slice none 0 0] 42)).heap.size = w.heap.size + 1 := by simp
    obtain ⟨wA, hwA⟩ : ∃ wA, w.alloc (.cells #[.slice none 0 0, .slice none 0 0, .slice none 0 0] 42) = wA := ⟨_, rfl⟩; rw [hwA] at bD0 hbA hokA hszA; obtain ⟨no1, hno1⟩ : ∃ n1, IntKind.i64.wrap (s.no + 1) = n1 := ⟨_, rfl⟩; rw [hno1] at hR; have hgA : K.g < w.heap.size := hok.blk.lt; have hgtA : K.gt < w.heap.size := Blk.lt (T := 188) hok.tak; obtain ⟨bb, oo, hsa, hbb, fe⟩ := ((hokA.shps t).row).elem shc_len (by decide) shz0 hshn; rw [hzz] at fe; have f0 := fe 0 _ rfl; have f1 := fe 1 _ rfl; have f2 := fe 2 _ rfl; have f3 := fe 3 _ rfl; simp only [Nat.add_zero] at f0 f1 f2 f3; clear fe; obtain ⟨Ty, ff, hne, hbel, hsurj⟩ := later_worlds wA; have q2 : ∀ s, (ff s).cell? ⟨K.g, 2, none⟩ = some (.slice (some ⟨bb, oo, none⟩) K.sn K.sc) := fun s => by rw [← hsa]; exact (Blk.late hokA.blk (hbel s)).cell rfl
    have q5 : ∀ s', (ff s').cell? ⟨K.g, 5, none⟩ = some (.int .i64 s.no) := fun s' => (Blk.late hokA.blk (hbel s')).cell rfl; have r0 : ∀ s, (ff s).cell? ⟨bb, oo + sh * 4, none⟩ = some (.slice la ln lc) := fun s => late (hbel s) hbb f0; have r1 : ∀ s, (ff s).cell? ⟨bb, oo + sh * 4 + 1, none⟩ = some (.int .i64 sat) := fun s => late (hbel s) hbb f1; have r2 : ∀ s, (ff s).cell? ⟨bb, oo + sh * 4 + 2, none⟩ = some (.int .i64 slong) := fun s => late (hbel s) hbb f2; have r3 : ∀ s, (ff s).cell? ⟨bb, oo + sh * 4 + 3, none⟩ = some (.int .i64 snx) := fun s => late (hbel s) hbb f3; have HS := Lib.hid (hsurj _ ((Below.refl _ _).drew)); have HD := Lib.hid ((Below.refl wA.heap.size wA).drew); have hshi : (sh : Int) < K.sn := by omega
    clear f0 f1 f2 f3; have IH' := Lib.hid IH; have t' := Lib.hid t; have hok' := Lib.hid hok; have hinv' := Lib.hid hinv; have hzl' := Lib.hid hzl; have hsl' := Lib.hid hsl; have hR' := Lib.hid hR; have hzz' := Lib.hid hzz; have hlk0' := Lib.hid hlk0; have bD0' := Lib.hid bD0; have hbA' := Lib.hid hbA; have hokA' := Lib.hid hokA; have hbel' := Lib.hid hbel; have hsurj' := Lib.hid hsurj; clear IH t hok hinv hzl hsl hR hzz hlk0 bD0 hbA hokA hbel hsurj
    go_enter Tryz.func124, Tryz.ntmps124
    go_upto_region 1 with fail
    try rw [hwA]
    clear hwA; refine held_begin (S := fun W => ∃ s, W = ff s) (by kernel_rfl) 14 rfl ?_; refine held_take [0, 1, 2, 3, 4, 5, 6, 7, 8, 9, 10] 3 (by kernel_rfl) (fun d _ _ _ _ h => by cases d <;> exact h) (by kernel_rfl) (by kernel_rfl) (by kernel_rfl) HS.out ?_; simp only [pickL, List.map_cons, List.map_nil, List.getD_cons_succ, List.getD_cons_zero]
    iterate 11 (go_big_quiet_step (fail))
    refine wpQuiet_nil ?_; refine held_one 11 2 (by kernel_rfl) (by kernel_rfl) ?_; simp only [pickL, List.map_cons, List.map_nil, List.getD_cons_succ, List.getD_cons_zero]
    go_wp2_with fail
    have hal := ((Below.refl wA.heap.size wA).alloc (Nat.le_refl _) (.cells #[.slice none 0 0, .int .i64 0, .int .i64 0, .int .i64 0] 50)).drew; have bS1 : Blk (wA.alloc (.cells #[.slice none 0 0, .int .i64 0, .int .i64 0, .int .i64 0] 50)).drew wA.heap.size 50 #[.slice none 0 0, .int .i64 0, .int .i64 0, .int .i64 0] := Blk.new wA _ _; obtain ⟨w1, hw1⟩ : ∃ w1, (wA.alloc (.cells #[.slice none 0 0, .int .i64 0, .int .i64 0, .int .i64 0] 50)).drew = w1 := ⟨_, rfl⟩; rw [hw1] at hal bS1; rw [hw1]; clear hw1; obtain ⟨gs, hgs⟩ : ∃ gs, w.heap.size + 1 = gs := ⟨_, rfl⟩; rw [hszA, hgs] at bS1; rw [hgs]; have HS := Lib.hid (hsurj'.out _ hal); have p0 : w1.cell? ⟨gs, 0, none⟩ = some (.slice none 0 0) := bS1.cell rfl; have p1 : w1.cell? ⟨gs, 1, none⟩ = some (.int .i64 0) := bS1.cell rfl; have p2 : w1.cell? ⟨gs, 2, none⟩ = some (.int .i64 0) := bS1.cell rfl; have p3 : w1.cell? ⟨gs, 3, none⟩ = some (.int .i64 0) := bS1.cell rfl; have y0 := bS1.frozen 0; have y1 := bS1.frozen 1; have y2 := bS1.frozen 2; have y3 := bS1.frozen 3; have hgsl : wA.heap.size ≤ gs := by omega
    have hgsl2 : w.heap.size < gs := by omega
    have hal2 := hal; have hal' := Lib.hid hal; have bS1' := Lib.hid bS1; have hgs' := Lib.hid hgs; have hal2' := Lib.hid hal2; clear hal bS1 hgs hal2
    first | refine Mid.mk ⟨HS.out, ?_⟩ | refine Mid.mk ?_
    refine held_one 12 1 (by kernel_rfl) (by kernel_rfl) ?_; simp only [pickL, List.map_cons, List.map_nil, List.getD_cons_succ, List.getD_cons_zero]
    go_wp2_with fail
    have bS2 := bS1'.out.set4 (.slice la ln lc) (.int .i64 sat) (.int .i64 slong) (.int .i64 snx); have hb2 := below_set4 hal'.out (show wA.heap.size ≤ gs by omega) (.slice la ln lc) (.int .i64 sat) (.int .i64 slong) (.int .i64 snx); have HS := Lib.hid (hsurj'.out _ hb2); refine Mid.mk ⟨HS.out, ?_⟩; refine held_take [13] 0 (by kernel_rfl) (fun d _ _ _ _ h => by cases d <;> exact h) (by kernel_rfl) (by kernel_rfl) (by kernel_rfl) HS.out ?_; simp only [pickL, List.map_cons, List.map_nil, List.getD_cons_succ, List.getD_cons_zero]
    iterate 1 (go_big_quiet_step (fail))
    refine wpQuiet_nil ?_; refine held_last (by kernel_rfl) ?_; clear p0 p1 p2 p3 y0 y1 y2 y3 bS1' hal' hal2' q2 q5 r0 r1 r2 r3 HS HD hbel' hsurj'
    generalize ((((w1.setCell ⟨gs, 0, none⟩ (.slice la ln lc)).setCell ⟨gs, 1, none⟩ (.int .i64 sat)).setCell ⟨gs, 2, none⟩ (.int .i64 slong)).setCell ⟨gs, 3, none⟩ (.int .i64 snx)) = wB at *
    -- one more number
    have hokB := hokA'.out.later hb2; have bDB := bD0'.out.late hb2; have hbwB := hbA'.out.trans (hb2.mono hbA'.out.size); have c5 : wB.cell? ⟨K.g, 5, none⟩ = some (.int .i64 s.no) := hokB.blk.cell rfl; have y5 := hokB.blk.frozen 5; have hbt := (But.refl K.g wB).set 5 (.int .i64 no1)
    have hok2 : WkOk K { s with no := no1 } sv tk (wB.setCell ⟨K.g, 5, none⟩ (.int .i64 no1)) :=
      ⟨hokB.old.trans (hbt.below t'.out.gB hokB.old.size), hokB.blk.set 5 _, Blk.but (T := 188) hokB.tak hbt (Ne.symm t'.out.ne), hokB.tkl, hokB.tkb, hokB.bits, own_but hokB.spot hbt hokB.sg, hokB.sg, hokB.sgt⟩
    have bD2 := bDB.but hbt (show w.heap.size ≠ K.g by omega); have bS2 := bS2.but hbt (show gs ≠ K.g by omega); have hmv2 := (Mv.of_below (g := K.g) (gt := K.gt) (sv := sv) hbwB).trans (Mv.of_but hbt (.inl rfl)); have hsvw : ∀ k, sv.ownBlock = some k → k < w.heap.size := fun k e => (hok'.out.spot.lt k e).2; have hszB := bS2.lt; clear hbt hokB bDB hb2 hbwB hokA' bD0' hbA'; have hok2' := Lib.hid hok2; have bD2' := Lib.hid bD2; have bS2' := Lib.hid bS2; have hmv2' := Lib.hid hmv2; have hsvw' := Lib.hid hsvw; clear hok2 bD2 bS2 hmv2 hsvw
    go_upto_region 3 with fail
    clear c5 y5
    generalize wB.setCell ⟨K.g, 5, none⟩ (.int .i64 no1) = w2 at *
    -- the entries
    have hinv2 : Inv K.n { s with no := no1 } := hinv'.out.of_spots rfl; have HE := entries_any K t'.out ho { s with no := no1 } sv tk w2 p s.no hok2'.out h0 h1 (by have := hinv'.out.le; show s.spots.length ≤ _; omega); obtain ⟨RE, hRE⟩ : ∃ RE, entriesS K.z K.o p s.no { s with no := no1 } = RE := ⟨_, rfl⟩; have hR1 := hR'.out; rw [hRE] at HE hR1; clear hR'; have HE' := Lib.hid HE; have hR1' := Lib.hid hR1; clear HE hR1
    go_wp2_with fail
    refine HE'.out.mono ?_; rintro e w3 hpost
    cases RE with
    | error x =>
      obtain rfl : R = .error x := by rw [← hR1'.out]
      obtain ⟨rfl, sv', hmv⟩ := hpost; clear hR1' hRE HE'; have hmv' := Lib.hid hmv; clear hmv
      go_wp2_with fail
      exact ⟨rfl, rfl, sv', hmv2'.out.trans hmv'.out⟩
    | ok r =>
      obtain ⟨es, s3⟩ := r; obtain ⟨sv3, tk3, hok3, hmv3, ae, me, ce, rfl, hent⟩ := hpost; have hinv3 : Inv K.n s3 := by have h := entriesS_inv hRE (by rw [hzl'.out]; exact hinv2); rw [hzl'.out] at h; exact h
      have hes : (es = entsS K.z K.o p es.length ∧ 1 ≤ es.length ∧ es.length < 65536) := (entriesS_l hRE).resolve_right (fun h => h t'.out.byt); have hR2 := hR1'.out; simp only at hR2; clear hR1' HE' hRE hinv2; have bD3 := bD2'.out.mv hmv3 (show w.heap.size ≠ K.g by omega) (show w.heap.size ≠ K.gt by omega) (fun e => by have := hsvw'.out _ e; omega); have bS3 := bS2'.out.mv hmv3 (show gs ≠ K.g by omega) (show gs ≠ K.gt by omega) (fun e => by have := hsvw'.out _ e; omega); have hme : me = es.length := by have h := hent.sl.flen entC_len (by decide); exact h.symm
      subst hme; have hmvw3 := hmv2'.out.trans hmv3; have hsz3 := hmv3.size; have c0 : w3.cell? ⟨gs, 0, none⟩ = some (.slice la ln lc) := bS3.cell rfl; have c1 : w3.cell? ⟨gs, 1, none⟩ = some (.int .i64 sat) := bS3.cell rfl; have c2 : w3.cell? ⟨gs, 2, none⟩ = some (.int .i64 slong) := bS3.cell rfl; have c3 : w3.cell? ⟨gs, 3, none⟩ = some (.int .i64 snx) := bS3.cell rfl; have HL := links_any ae es.length ce es ((la, ln, lc), (lks, sat, slong, snx)) w3 hent.sl (hlk0'.out.mono hok3.old) (by omega); simp only at HL; obtain ⟨shp, hshp⟩ : ∃ q : Shp, (lks, sat, slong, snx) = q := ⟨_, rfl⟩; rw [hshp] at HL hR2; have hok3' := Lib.hid hok3; have hmv3' := Lib.hid hmv3; have hent' := Lib.hid hent; have hinv3' := Lib.hid hinv3; have hes' := Lib.hid hes; have hR2' := Lib.hid hR2; have bD3' := Lib.hid bD3; have bS3' := Lib.hid bS3; have hmvw3' := Lib.hid hmvw3; have HL' := Lib.hid HL; have hshp' := Lib.hid hshp; clear hok3 hmv3 hent hinv3 hes hR2 bD3 bS3 hmvw3 HL hshp
      go_wp2_with fail
      refine HL'.out.mono ?_; rintro e w4 ⟨v1, v2, v3, rfl, h3, hb4⟩; have hszz4 := hb4.size; obtain ⟨B, hB⟩ : ∃ B, w2.heap.size = B := ⟨_, rfl⟩; obtain ⟨B2, hB2⟩ : ∃ B2, w4.heap.size = B2 := ⟨_, rfl⟩; have hpst : Pst K w.heap.size B B2 w.heap.size gs := ⟨hgA, hgtA, Nat.le_trans hok'.out.old.size (Nat.le_refl _), Nat.le_refl _, by omega, by omega, by omega, by omega, by omega⟩; have hsv3 : ∀ k, sv3.ownBlock = some k → k < w3.heap.size := fun k e => (hok3'.out.spot.lt k e).2; have hne3 : ∀ {v : Value} {l : List Ent}, w4.ownsRow w3.heap.size 62 4 v l.length (fl entC l) → Sk (Xv sv3) B B2 w4 v 4 l.length (fl entC l) := fun h => Sk.of_own (own_mono h (by omega)) (by omega) (fun k e e2 => by have := (h.lt k e).1; have := hsv3 k e2; omega); have hto := hne3 h3.r1; have hpa := hne3 h3.r2; have hre := hne3 h3.r3; have hen : Sk (Xv sv3) B B2 w4 (.slice ae es.length ce) 4 es.length (fl entC es) := Sk.of_own (own_mono (own_later hent'.out.1 hb4) (by omega)) (by omega) hent'.out.2
      have hpk : Pk K w.heap.size B B2 w.heap.size gs w w4 sv sv3 #[.slice la ln lc, .int .i64 sat, .int .i64 slong, .int .i64 snx] s3 sv3 tk3 (.slice none 0 0) (.slice none 0 0) (.slice none 0 0) [] w4 :=
        ⟨hok3'.out.later hb4, hinv3'.out, hmvw3'.out.later hb4, fun k e => by rcases hmv3'.out.own k e with h | h <;> first | exact .inl (hsvw'.out k h) | exact .inr (by omega), Kp.same (fun _ _ _ h => h), TagsAt.nil _ _ _, bD3'.out.late hb4, bS3'.out.late hb4, Nat.le_of_eq hB2.symm⟩
      clear c0 c1 c2 c3 hb4 h3 hne3 hok3' hmv3' hent' bD3' bS3' hmvw3' hok2' bD2' bS2' hmv2' HL' hinv3'; have hpst' := Lib.hid hpst; have hto' := Lib.hid hto; have hpa' := Lib.hid hpa; have hre' := Lib.hid hre; have hen' := Lib.hid hen; have hpk' := Lib.hid hpk; have hB' := Lib.hid hB; clear hpst hto hpa hre hen hpk hB
      go_wp2_with fail
      obtain ⟨i0, z0, hi0, hz, hz1, hz2, hz3⟩ := info_sz infoTa infoTaz; obtain ⟨RT, hRT⟩ : ∃ RT, loopS (stepT K.z K.o shp s.no) es ([], s3) = RT := ⟨_, rfl⟩; have hR3 := hR2'.out; rw [hRT] at hR3; have hmem : ∀ i, i < es.length → 0 ≤ (es.getD i (0, 0, 0, 0)).2.2.2 ∧ (es.getD i (0, 0, 0, 0)).2.2.2 ≤ 4294967295 := fun i hi => entsS_mem t'.out.byt (by rw [← hes'.out.1, getD_el hi]; exact List.getElem_mem _); have hnl : es.length < 65536 := hes'.out.2.2; clear hR2' hszz4 hsv3; have hR3' := Lib.hid hR3; have hRT' := Lib.hid hRT; have hmem' := Lib.hid hmem; clear hR3 hRT hmem
      go_loopw [13, 54] (fun rv iv wr => ∃ (i : Nat) (si : St) (svi : Value) (tki : List Nat) (vt : Value) (tags : List Tgs), i ≤ es.length ∧ iv = .int .i64 i ∧ Hid (loopS (stepT K.z K.o shp s.no) (es.drop i) (tags, si) = RT) ∧ Hid (Pk K w.heap.size B B2 w.heap.size gs w w4 sv sv3 #[.slice la ln lc, .int .i64 sat, .int .i64 slong, .int .i64 snx] si svi tki vt (.slice none 0 0) (.slice none 0 0) tags wr) ∧ Hid (Sk (Xv svi) B B2 wr rv 4 (restE shp (es.drop i)).length (fl entC (restE shp (es.drop i)))) ∧ tags.length ≤ i) (fun _ iv _ => es.length - (intOf iv).toNat)
      case atStart => exact ⟨0, s3, sv3, tk3, _, [], by omega, rfl, by rw [List.drop_zero]; exact hRT', hpk', by rw [List.drop_zero]; exact hre', by simp⟩
      case round =>
        obtain ⟨i, si, svi, tki, vt, tags, hi, rfl, hlp, hpki, hrs, htl⟩ := hrel
        by_cases hlt : i < es.length
        · have henr := (hen'.out.keep hpki.out.kp (Nat.le_of_eq hB2.symm)).sl.2
          obtain ⟨be, oe, rfl, hbe, fe⟩ := henr.elem entC_len (by decide) (0, 0, 0, 0) hlt; have hsl0 := (hmem'.out i hlt); have hrc := restE_cons (sh := shp) hlt; have hdc : es.drop i = es.getD i (0, 0, 0, 0) :: es.drop (i + 1) := by rw [List.drop_eq_getElem_cons hlt, getD_el hlt]
          obtain ⟨⟨x1, x2, x3, x4⟩, hx⟩ : ∃ x, es.getD i (0, 0, 0, 0) = x := ⟨_, rfl⟩; rw [hx] at fe hsl0 hrc hdc; have f0 := fe 0 _ rfl; have f1 := fe 1 _ rfl; have f2 := fe 2 _ rfl; have f3 := fe 3 _ rfl; simp only [Nat.add_zero] at f0 f1 f2 f3; simp only at hsl0; clear fe henr; have hin : (i : Int) < es.length := by omega
          obtain ⟨a3, c3, rfl⟩ := hrs.out.val; have hrc' := Lib.hid hrc; have hdc' := Lib.hid hdc; have hx' := Lib.hid hx; clear hrc hdc hx
          go_upto_region 8 with fail
          have be5 := Blk.new wr 62 #[.int .i64 x1, .int .i64 x2, .int .i64 x3, .int .i64 x4]; have hal := (Below.refl wr.heap.size wr).alloc (Nat.le_refl _) (.cells #[.int .i64 x1, .int .i64 x2, .int .i64 x3, .int .i64 x4] 62); have hpk5 := hpki.out.later hal; have hrs5 := hrs.out.keep (Kp.later hal) hpki.out.sz; have hszge : B2 ≤ wr.heap.size := hpki.out.sz; clear f0 f1 f2 f3 hal
          generalize wr.alloc (.cells #[.int .i64 x1, .int .i64 x2, .int .i64 x3, .int .i64 x4] 62) = w5 at *
          generalize wr.heap.size = ge at *
          have g0 : w5.cell? ⟨ge, 0, none⟩ = some (.int .i64 x1) := be5.cell rfl; have g1 : w5.cell? ⟨ge, 1, none⟩ = some (.int .i64 x2) := be5.cell rfl; have g2 : w5.cell? ⟨ge, 2, none⟩ = some (.int .i64 x3) := be5.cell rfl; have g3 : w5.cell? ⟨ge, 3, none⟩ = some (.int .i64 x4) := be5.cell rfl; obtain ⟨ob, hob⟩ : ∃ b, ownP shp x1 = b := ⟨_, rfl⟩; have hrsl := hrs5.sl.2; have be5' := Lib.hid be5; have hpk5' := Lib.hid hpk5; have hrs5' := Lib.hid hrs5; have hrsl' := Lib.hid hrsl; have hob' := Lib.hid hob; clear be5 hpk5 hrs5 hrsl hob
          go_cut [67] from 58 to 66 (fun v wx => v = .bool (!ob) ∧ ∃ m, wx = w5.drewN m)
          case first =>
            -- DEV{L1a
            cases ob with
            | true =>
              by_cases hm : 0 < (restE shp (es.drop i)).length
              · obtain ⟨br, orr, rfl, hbr, fr⟩ := hrsl'.out.elem entC_len (by decide) (0, 0, 0, 0) hm
                have hno : ownP shp ((restE shp (es.drop i)).getD 0 (0, 0, 0, 0)).1 = false := by
                  cases hl : restE shp (es.drop i) with
                  | nil => rw [hl] at hm; simp at hm
                  | cons y r => exact restE_not hl
                obtain ⟨⟨y1, y2, y3, y4⟩, hy⟩ : ∃ y, (restE shp (es.drop i)).getD 0 (0, 0, 0, 0) = y := ⟨_, rfl⟩; rw [hy] at fr hno; have e0 := fr 0 _ rfl; have e1 := fr 1 _ rfl; have e2 := fr 2 _ rfl; have e3 := fr 3 _ rfl; simp only [Nat.add_zero, Nat.zero_mul] at e0 e1 e2 e3; have heq := ent_eql (x1, x2, x3, x4) (y1, y2, y3, y4); simp only at heq hno
                have hne : ¬ ((x1, x2, x3, x4) = (y1, y2, y3, y4) : Prop) := fun h => by
                  injection h with h _; rw [h, hno] at hob'; exact Bool.noConfusion hob'.out
                rw [decide_eq_false hne] at heq; have hmi : (0 : Int) < ((restE shp (es.drop i)).length : Int) := by omega
                generalize (restE shp (es.drop i)).length = m at *
                have d1 : decide ((0 : Int) < (m : Int)) = true := by simp; omega
                have d2 : decide (0 < m) = true := by simp; omega
                clear fr hno hne hy
                go_quiet (fail)
                go_wp2_with fail
                go_meet
                exact ⟨rfl, _, rfl⟩
              · have hm0 : (restE shp (es.drop i)).length = 0 := by omega
                generalize (restE shp (es.drop i)).length = m at *
                subst hm0
                go_quiet (fail)
                go_wp2_with fail
                go_meet
                exact ⟨rfl, _, rfl⟩
            | false =>
              have hrc2 := hrc'.out; rw [if_neg (by rw [hob'.out]; simp)] at hrc2; have hm : 0 < (restE shp (es.drop i)).length := by rw [hrc2]; simp
              obtain ⟨br, orr, rfl, hbr, fr⟩ := hrsl'.out.elem entC_len (by decide) (0, 0, 0, 0) hm; have hy : (restE shp (es.drop i)).getD 0 (0, 0, 0, 0) = (x1, x2, x3, x4) := by rw [hrc2]; rfl
              rw [hy] at fr; have e0 := fr 0 _ rfl; have e1 := fr 1 _ rfl; have e2 := fr 2 _ rfl; have e3 := fr 3 _ rfl; simp only [Nat.add_zero, Nat.zero_mul] at e0 e1 e2 e3; have heq := ent_eql (x1, x2, x3, x4) (x1, x2, x3, x4); simp only [decide_true] at heq; have hmi : (0 : Int) < ((restE shp (es.drop i)).length : Int) := by omega
              clear hrc2
              generalize (restE shp (es.drop i)).length = m at *
              have d1 : decide ((0 : Int) < (m : Int)) = true := by simp; omega
              have d2 : decide (0 < m) = true := by simp; omega
              clear fr hy
              go_quiet (fail)
              go_wp2_with fail
              go_meet
              exact ⟨rfl, _, rfl⟩
            -- }DEV
          case rest =>
            obtain ⟨rfl, mm, hwx⟩ := hcut
            rename World => w6
            have hbq : Below w5.heap.size w5 w6 := by rw [hwx]; exact below_drewN (Below.refl _ _) _
            have be6 := be5'.out.late hbq; have hpk6 := hpk5'.out.later hbq; have hrs6 := hrs5'.out.keep (Kp.later hbq) (Nat.le_trans hpk5'.out.sz (Nat.le_refl _)); clear hwx hbq g0 g1 g2 g3 be5' hpk5' hrs5' hrsl'
            cases ob with
            | true =>
              -- DEV{L1b
              have hstep : stepT K.z K.o shp s.no (tags, si) (x1, x2, x3, x4) = if x2 = 4 ∧ x3 = 1 then .ok (tags, si) else .error 6 := by
                unfold stepT; rw [if_pos hob'.out]
              have g1 : w6.cell? ⟨ge, 1, none⟩ = some (.int .i64 x2) := be6.cell rfl; have g2 : w6.cell? ⟨ge, 2, none⟩ = some (.int .i64 x3) := be6.cell rfl; have hlp2 := hlp.out; rw [hdc'.out] at hlp2; have be6' := Lib.hid be6; have hpk6' := Lib.hid hpk6; have hrs6' := Lib.hid hrs6; clear be6 hpk6 hrs6
              by_cases hx2 : x2 = 4
              · have d1 : (x2 == 4) = true := by simp [hx2]
                by_cases hx3 : x3 = 1
                · have d2 : (x3 == 1) = true := by simp [hx3]
                  rw [if_pos ⟨hx2, hx3⟩] at hstep; rw [loopS_cons_ok hstep] at hlp2
                  have hrs7 : Sk (Xv svi) B B2 w6 (.slice a3 (restE shp (es.drop i)).length c3) 4 (restE shp (es.drop (i + 1))).length (fl entC (restE shp (es.drop (i + 1)))) := by
                    have h := hrs6'.out; rw [hrc'.out, if_pos hob'.out] at h; rw [hrc'.out, if_pos hob'.out]; exact h
                  clear hx2 hx3 hstep; have hlp2' := Lib.hid hlp2; have hrs7' := Lib.hid hrs7; clear hlp2 hrs7
                  go_wp2_with (go_at_call 122; refine (must_any _ _ _).mono ?_; rintro e w3 ⟨rfl, rfl⟩; simp only [mustE_t, mustE_f])
                  go_roundw
                  case rel => exact ⟨i + 1, si, svi, tki, vt, tags, by omega, by go_num, hlp2', hpk6', hrs7', by omega⟩
                  case measure => simp [intOf]; omega
                · have d2 : (x3 == 1) = false := by simp [hx3]
                  rw [if_neg (fun h => hx3 h.2)] at hstep; rw [loopS_cons_err hstep] at hlp2; subst hlp2; obtain rfl : R = .error 6 := by rw [← hR3'.out]
                  clear hx2 hx3 hstep
                  go_wp2_with (go_at_call 122; refine (must_any _ _ _).mono ?_; rintro e w3 ⟨rfl, rfl⟩; simp only [mustE_t, mustE_f])
                  exact ⟨rfl, rfl, svi, hpk6'.out.mv⟩
              · have d1 : (x2 == 4) = false := by simp [hx2]
                rw [if_neg (fun h => hx2 h.1)] at hstep; rw [loopS_cons_err hstep] at hlp2; subst hlp2; obtain rfl : R = .error 6 := by rw [← hR3'.out]
                clear hx2 hstep
                go_wp2_with (go_at_call 122; refine (must_any _ _ _).mono ?_; rintro e w3 ⟨rfl, rfl⟩; simp only [mustE_t, mustE_f])
                exact ⟨rfl, rfl, svi, hpk6'.out.mv⟩
              -- }DEV
            | false =>
              -- DEV{L1c
              have hstep : stepT K.z K.o shp s.no (tags, si) (x1, x2, x3, x4) = match valueS K.z K.o (x1, x2, x3, x4) s.no si with
                  | .error e => .error e
                  | .ok (v, s') => .ok (tags ++ [v], s') := by
                unfold stepT; rw [if_neg (by rw [hob'.out]; simp)]
                rfl
              have hlp2 := hlp.out; rw [hdc'.out] at hlp2; obtain ⟨zs0, hzs0, hown0⟩ := hpk6.tg.own; obtain ⟨av, cv, rfl⟩ := own_v' hown0; obtain ⟨mm2, hmm2⟩ : ∃ q, (restE shp (es.drop i)).length = q := ⟨_, rfl⟩
              have hm1 : mm2 = (restE shp (es.drop (i + 1))).length + 1 := by
                have h := hrc'.out; rw [if_neg (by rw [hob'.out]; simp)] at h; rw [← hmm2, h]; simp
              have hle3 := hrs6.sl.2.le; have hdrewb := (Below.refl w6.heap.size w6).drew; have HV := value2_any K t'.out ho si svi tki w6.drew (x1, x2, x3, x4) s.no (hpk6.ok.later hdrewb) hsl0.1 hsl0.2 (by have := hpk6.inv.le; omega); unfold entV at HV; simp only at HV; obtain ⟨RV, hRV⟩ : ∃ RV, valueS K.z K.o (x1, x2, x3, x4) s.no si = RV := ⟨_, rfl⟩; rw [hRV] at HV hstep
              have hinvV : ∀ v s', RV = .ok (v, s') → Inv K.n s' := fun v s' e => by
                have h := valueS_inv (hRV.trans e) (by rw [hzl'.out]; exact hpk6.inv); rw [hzl'.out] at h; exact h
              rw [hmm2] at hrs6 hle3; rw [hmm2]; obtain ⟨a4, hsl4, hs4, hin4⟩ := sub_l (P := Tryz.prog) (T := 136) (E := 62) (sz := 4) Tryz.underlying136 (fun W => by kernel_rfl) hrs6.sl.2 (1 : Int) (by omega) (by omega) (mm2 - 1) (c3 - 1) (by omega) (by omega)
              have hs4' : Sl w6 a4 (mm2 - 1) (c3 - 1) 4 (fl entC (restE shp (es.drop (i + 1)))) := by
                have h := hs4; rw [hrc'.out, if_neg (by rw [hob'.out]; simp)] at h; rw [show (1 : Int).toNat * 4 = 4 from rfl, fl_drop entC_len] at h; exact h
              have hrs6t := hrs6.tail hs4' hin4; clear hs4 hs4' hin4; obtain ⟨Ty2, f2, hne2, hp2, hsurj2⟩ := prop_worlds (fun W => Blk W w.heap.size 42 #[.slice av tags.length cv, .slice none 0 0, .slice none 0 0] ∧ Blk W ge 62 #[.int .i64 x1, .int .i64 x2, .int .i64 x3, .int .i64 x4]) w6 ⟨hpk6.bD, be6⟩; have d0 : ∀ s, (f2 s).cell? ⟨w.heap.size, 0, none⟩ = some (.slice av tags.length cv) := fun s => (hp2 s).1.cell rfl; have g0 : ∀ s, (f2 s).cell? ⟨ge, 0, none⟩ = some (.int .i64 x1) := fun s => (hp2 s).2.cell rfl; have g1 : ∀ s, (f2 s).cell? ⟨ge, 1, none⟩ = some (.int .i64 x2) := fun s => (hp2 s).2.cell rfl; have g2 : ∀ s, (f2 s).cell? ⟨ge, 2, none⟩ = some (.int .i64 x3) := fun s => (hp2 s).2.cell rfl; have g3 : ∀ s, (f2 s).cell? ⟨ge, 3, none⟩ = some (.int .i64 x4) := fun s => (hp2 s).2.cell rfl; have HS := Lib.hid (hsurj2 w6.drew ⟨hpk6.bD, be6⟩); have hgeA : ge < w6.heap.size := be6.lt; have hpkd := hpk6.later hdrewb; have hrsd : Sk (Xv svi) B B2 w6.drew (.slice a4 (mm2 - 1) (c3 - 1)) 4 (mm2 - 1) (fl entC (restE shp (es.drop (i + 1)))) := hrs6t.keep (Kp.later hdrewb) hpk6.sz; have hszd : w6.drew.heap.size = w6.heap.size := rfl; have bed : Blk w6.drew ge 62 #[.int .i64 x1, .int .i64 x2, .int .i64 x3, .int .i64 x4] := be6; clear hrs6 hrs6t be6 hdrewb hmm2 hown0 hzs0 hpk6; have hBB := hpst'.out.bb; have hgB := hpst'.out.gd2; have HV' := Lib.hid HV; have hstep' := Lib.hid hstep; have hlp2' := Lib.hid hlp2; have hinvV' := Lib.hid hinvV; have hp2' := Lib.hid hp2; have hsurj2' := Lib.hid hsurj2; have hpkd' := Lib.hid hpkd; have hrsd' := Lib.hid hrsd; have bed' := Lib.hid bed; have hm1' := Lib.hid hm1; clear HV hstep hlp2 hinvV hp2 hsurj2 hpkd hrsd bed hm1
              go_wp2_with fail
              refine till_begin (t := 11) (C := fun W => ∃ s, W = f2 s) (by kernel_rfl) 13 rfl ?_; refine till_free [0, 2, 4, 8, 9] 8 (by kernel_rfl) (fun d _ _ _ _ h => by cases d <;> exact h) (by kernel_rfl) (by kernel_rfl) (by kernel_rfl) HS.out ?_; simp only [pickL, List.map_cons, List.map_nil, List.getD_cons_succ, List.getD_cons_zero]
              iterate 5 (go_big_quiet_step (fail))
              refine wpQuiet_nil ?_; refine till_take [1, 3] 6 (by kernel_rfl) (fun d _ _ _ _ h => by cases d <;> exact h) (by kernel_rfl) (by kernel_rfl) (by kernel_rfl) HS.out ?_; simp only [pickL, List.map_cons, List.map_nil, List.getD_cons_succ, List.getD_cons_zero]
              iterate 2 (go_big_quiet_step (fail))
              refine wpQuiet_nil ?_; clear d0 g0 g1 g2 g3; refine till_one 5 5 (by kernel_rfl) (by kernel_rfl) ?_; simp only [pickL, List.map_cons, List.map_nil, List.getD_cons_succ, List.getD_cons_zero]
              go_wp2_with fail
              refine HV'.out.mono ?_; rintro e w7 hpost
              cases RV with
              | error y =>
                obtain ⟨rfl, sv', hmv⟩ := hpost; have hlp3 := hlp2'.out; rw [loopS_cons_err (hstep'.out.trans rfl)] at hlp3; subst hlp3; obtain rfl : R = .error y := by rw [← hR3'.out]
                clear HV' hstep'; have hmv' := Lib.hid hmv; clear hmv
                go_wp2_with fail
                refine mid_panic ?_
                go_wp2_with fail
                exact ⟨rfl, rfl, sv', hpkd'.out.mv.trans hmv'.out⟩
              | ok rv =>
                obtain ⟨v, s7⟩ := rv; obtain ⟨sv7, tk7, hok7, hmv7, a7, m7, c7, rfl, hck7⟩ := hpost; have hlp3 := hlp2'.out; rw [loopS_cons_ok (hstep'.out.trans rfl)] at hlp3; have hpk7 := hpkd'.out.mv2 hpst'.out hmv7 hok7 (hinvV'.out v s7 rfl); have hsvi : ∀ k, svi.ownBlock = some k → k < w6.heap.size ∧ k ≠ ge := fun k e => ⟨(hpkd'.out.ok.spot.lt k e).2, fun h => own_ne_blk hpkd'.out.ok.spot bed'.out (by decide) (by rw [e, h])⟩; have be7 := bed'.out.mv hmv7 (show ge ≠ K.g by omega) (show ge ≠ K.gt by omega) (fun e => (hsvi _ e).2 rfl); have hrs7 := hrsd'.out.keep (Kp.mv hmv7 (show K.g < B by omega) (show K.gt < B by omega)) (show B2 ≤ w6.drew.heap.size from hpkd'.out.sz); have hck7 := hck7.mono (show B2 ≤ w6.drew.heap.size from hpkd'.out.sz); have hm7 : m7 = v.2.2.2.length := by have h := hck7.sl.ilen; exact h.symm
                subst hm7; have HS := Lib.hid (hsurj2'.out w7 ⟨hpk7.bD, be7⟩); clear hmv7 hok7 HV' hstep' hlp2' hinvV' hpkd' hrsd' bed' hsvi; have hlp3' := Lib.hid hlp3; have hpk7' := Lib.hid hpk7; have be7' := Lib.hid be7; have hrs7' := Lib.hid hrs7; have hck7' := Lib.hid hck7; clear hlp3 hpk7 be7 hrs7 hck7
                go_wp2_with fail
                first | refine Mid.mk ⟨fun _ => HS.out, ?_⟩ | refine Mid.mk ?_
                obtain ⟨t1, t2, t3, td⟩ := v; refine till_one 6 4 (by kernel_rfl) (by kernel_rfl) ?_; simp only [pickL, List.map_cons, List.map_nil, List.getD_cons_succ, List.getD_cons_zero]
                go_wp2_with fail
                have hal := (Below.refl w7.heap.size w7).alloc (Nat.le_refl _) (.cells #[.int .i64 t1, .int .i64 t2, .int .i64 t3, .slice a7 td.length c7] 78); have hpk8 := hpk7'.out.later hal; have be8 := be7'.out.late hal; have hrs8 := hrs7'.out.keep (Kp.later hal) hpk7'.out.sz; have hck8 := hck7'.out.keep (Kp.later hal); have hnew : Sl (w7.alloc (.cells #[.int .i64 t1, .int .i64 t2, .int .i64 t3, .slice a7 td.length c7] 78)) (some ⟨w7.heap.size, 0, none⟩) 1 1 4 (tzc ((t1, t2, t3, a7, td.length, c7), td)) := Sl.new w7 78 4 1 #[.int .i64 t1, .int .i64 t2, .int .i64 t3, .slice a7 td.length c7] (0, 0) (by omega) rfl; obtain ⟨w8, hw8⟩ : ∃ w8, w7.alloc (.cells #[.int .i64 t1, .int .i64 t2, .int .i64 t3, .slice a7 td.length c7] 78) = w8 := ⟨_, rfl⟩; rw [hw8] at hpk8 be8 hrs8 hck8 hnew; rw [hw8]; obtain ⟨gn, hgn⟩ : ∃ gn, w7.heap.size = gn := ⟨_, rfl⟩; rw [hgn] at hnew; rw [hgn]; have HS := Lib.hid (hsurj2'.out w8 ⟨hpk8.bD, be8⟩); obtain ⟨zs, hzs, hown⟩ := hpk8.tg.own; have hB28 := hpk8.sz; clear hal hw8 hgn hpk7' be7' hrs7' hck7'; have hpk8' := Lib.hid hpk8; have be8' := Lib.hid be8; have hrs8' := Lib.hid hrs8; have hck8' := Lib.hid hck8; have hnew' := Lib.hid hnew; have hown' := Lib.hid hown; have hzs' := Lib.hid hzs; clear hpk8 be8 hrs8 hck8 hnew hown hzs
                first | refine Mid.mk ⟨fun _ => HS.out, ?_⟩ | refine Mid.mk ?_
                refine till_one 7 3 (by kernel_rfl) (by kernel_rfl) ?_; simp only [pickL, List.map_cons, List.map_nil, List.getD_cons_succ, List.getD_cons_zero]
                go_wp2_with (at_builtin; refine wpList_app2 rfl _ _ 39 rfl B2 78 i0 z0 4 48 Tryz.underlying39 hi0 hz hz1 hz2 hz3 (by decide) (.slice av tags.length cv) tags.length _ rfl hown'.out ⟨gn, 0, none⟩ 1 1 (tzc ((t1, t2, t3, a7, td.length, c7), td)) rfl hnew'.out (tzc_one _) (by omega) (by decide) hB28 ?_; intro a9 c9 w9 ob hg9 ho9; have Ob := Lib.hid ob; have Hg9 := Lib.hid hg9; have Ho9 := Lib.hid ho9; clear ob hg9 ho9)
                have hvtX : ∀ k, (Value.slice av tags.length cv).ownBlock = some k → ¬ Xv sv7 k := by
                  obtain ⟨_, _, h2, _⟩ := hpk8'.out.tg; exact h2.2
                have hgtd : (Value.slice av tags.length cv).ownBlock ≠ some w.heap.size := own_ne_blk hown'.out hpk8'.out.bD (by decide); have hgte : (Value.slice av tags.length cv).ownBlock ≠ some ge := own_ne_blk hown'.out be8'.out (by decide); have bD9 := hpk8'.out.bD.grown Hg9.out hgtd; have be9 := be8'.out.grown Hg9.out hgte
                have hX9 : ∀ k, (Value.slice a9 (tags.length + 1) c9).ownBlock = some k → ¬ Xv sv7 k := fun k e h => by
                  rcases Ho9.out k e with h1 | h1
                  · exact hvtX k h1 h
                  · have := (hpk8'.out.ok.spot.lt k h).2; omega
                have htg9 := hpk8'.out.tg.snoc (v' := .slice a9 (tags.length + 1) c9) (t := (t1, t2, t3, td)) (z := ((t1, t2, t3, a7, td.length, c7), td)) rfl Hg9.out hX9 (fun zs2 h2 => by rw [own_inj h2 hown'.out]; exact Ob.out) hck8'.out; have hrs9 := hrs8'.out.grown Hg9.out (fun k e => (hown'.out.lt k e).1); have HS := Lib.hid (hsurj2'.out w9 ⟨bD9, be9⟩); have p0 : w9.cell? ⟨w.heap.size, 0, none⟩ = some (.slice av tags.length cv) := bD9.cell rfl; have y0 := bD9.frozen 0; have hbt := (But.refl w.heap.size w9).set 0 (.slice a9 (tags.length + 1) c9); have hpk10 := hpk8'.out.app hpst'.out Hg9.out (fun r e => ⟨(hown'.out.lt r e).1, fun h => hvtX r e h⟩) hB2 rfl hbt (bD9.set 0 (.slice a9 (tags.length + 1) c9)) htg9; have hrs10 := hrs9.keep (kp_but hbt hgB) (Nat.le_trans hB28 Hg9.out.size); clear hvtX hgtd hgte hX9 htg9 hrs9 be9 bD9; have hpk10' := Lib.hid hpk10; have hrs10' := Lib.hid hrs10; have hbt' := Lib.hid hbt; clear hpk10 hrs10 hbt
                first | refine Mid.mk ⟨fun _ => HS.out, ?_⟩ | refine Mid.mk ?_
                refine till_free [10] 2 (by kernel_rfl) (fun d _ _ _ _ h => by cases d <;> exact h) (by kernel_rfl) (by kernel_rfl) (by kernel_rfl) HS.out ?_; simp only [pickL, List.map_cons, List.map_nil, List.getD_cons_succ, List.getD_cons_zero]
                iterate 1 (go_big_quiet_step (fail))
                refine wpQuiet_nil ?_; refine till_one 11 1 (by kernel_rfl) (by kernel_rfl) ?_; simp only [pickL, List.map_cons, List.map_nil, List.getD_cons_succ, List.getD_cons_zero]
                go_wp2_with fail
                first | refine Mid.mk ⟨fun h => (by simp [segL] at h), ?_⟩ | refine Mid.mk ?_
                refine till_one 12 0 (by kernel_rfl) (by kernel_rfl) ?_; simp only [pickL, List.map_cons, List.map_nil, List.getD_cons_succ, List.getD_cons_zero]
                go_wp2_with fail
                first | refine Mid.mk ⟨fun h => (by simp [segL] at h), ?_⟩ | refine Mid.mk ?_
                refine till_last (by kernel_rfl) ?_; clear p0 y0; rw [show mm2 - 1 = (restE shp (es.drop (i + 1))).length by have := hm1'.out; omega] at hrs10' 
                go_wp2_with fail
                go_roundw
                case rel => exact ⟨i + 1, s7, sv7, tk7, .slice a9 (tags.length + 1) c9, tags ++ [(t1, t2, t3, td)], by omega, by go_num, hlp3', hpk10', (by have h := hrs10'; rw [show mm2 - 1 = (restE shp (es.drop (i + 1))).length by have := hm1'.out; omega]; exact h), by simp; omega⟩
                case measure => simp [intOf]; omega
              -- }DEV
        · obtain rfl : i = es.length := by omega
          have hlp2 := hlp.out; rw [List.drop_length] at hlp2; simp only [loopS] at hlp2; subst hlp2; have hR4 := hR3'.out; simp only at hR4
          change (if (pairE shp es).length = 1 then _ else _) = R at hR4
          obtain ⟨a2, c2, rfl⟩ := hpa'.out.val; obtain ⟨a1, c1, rfl⟩ := hto'.out.val; clear hlp hrs hR3' hRT'; have hR4' := Lib.hid hR4; clear hR4
          by_cases hp1 : (pairE shp es).length = 1
          · obtain rfl : R = .error 6 := by rw [← hR4'.out, if_pos hp1]
            have d1 : (((pairE shp es).length : Int) != 1) = false := by simp [hp1]
            generalize (pairE shp es).length = np at *
            clear hp1
            go_wp2_with (go_at_call 122; refine (must_any _ _ _).mono ?_; rintro e w3 ⟨rfl, rfl⟩; simp only [mustE_t, mustE_f])
            exact ⟨rfl, rfl, svi, hpki.out.mv⟩
          have d1 : (((pairE shp es).length : Int) != 1) = true := by simp; omega
          have hR5 := hR4'.out; rw [if_neg hp1, loopS_toE] at hR5; obtain ⟨RD, hRD⟩ : ∃ RD, loopS (stepD (dirS K.z K.o (shps K.zs) f) shp) (toE shp es) ([], si) = RD := ⟨_, rfl⟩; rw [hRD] at hR5; obtain ⟨nt, hnt⟩ : ∃ n, (toE shp es).length = n := ⟨_, rfl⟩; obtain ⟨np, hnp⟩ : ∃ n, (pairE shp es).length = n := ⟨_, rfl⟩; have hntl : nt ≤ es.length := by rw [← hnt]; exact List.length_filter_le _ _
          rw [hnp] at d1 hp1; obtain ⟨i1, z1, hi1, hy, hy1, hy2, hy3⟩ := info_sz infoSu infoSuz; have hmf : ∀ (fn : Fn) (first cap : Array Value) (w : World), (Instr.makeFunc fn first cap).run Tryz.prog w = .ok (.func fn first cap) w := fun _ _ _ _ => rfl
          have hvl : ∀ j, j < nt → linkP shp ((toE shp es).getD j (0, 0, 0, 0)).1 = true ∧ 0 ≤ ((toE shp es).getD j (0, 0, 0, 0)).2.2.2 ∧ ((toE shp es).getD j (0, 0, 0, 0)).2.2.2 ≤ 4294967295 := fun j hj => by
            have hm : (toE shp es).getD j (0, 0, 0, 0) ∈ toE shp es := by rw [getD_el (by rw [hnt]; exact hj)]; exact List.getElem_mem _
            unfold toE at hm; obtain ⟨h1, h2⟩ := List.mem_filter.1 hm; have h3 := entsS_mem t'.out.byt (by rw [← hes'.out.1]; exact h1); exact ⟨h2, h3.1, h3.2⟩
          have hlks : ∀ j, j < lks.length → ∃ sh' : Nat, (lks.getD j (0, 0)).2 = sh' ∧ sh' < K.sn ∧ K.sn ≤ sh' + f := fun j hj => by
            have hv := hval; unfold shapesB at hv; simp only [Bool.and_eq_true, decide_eq_true_eq] at hv; have h1 := List.all_eq_true.1 hv.2 sh (List.mem_range.2 (by simp [shps]; rw [hsl'.out]; exact hshn)); rw [shps_get (by rw [hsl'.out]; exact hshn), hzz'.out] at h1; unfold shapeB at h1; simp only [Bool.and_eq_true] at h1; have h2 := List.all_eq_true.1 h1.1.1 j (List.mem_range.2 hj); unfold linkB at h2; simp only [Bool.and_eq_true] at h2; have h3 := h2.1.2; unfold lateB at h3; simp only [Bool.and_eq_true, decide_eq_true_eq, shps, List.length_map, hsl'.out] at h3; exact ⟨(lks.getD j (0, 0)).2.toNat, by omega, by omega, by omega⟩
          have hto2 := hto'.out; have hpa2 := hpa'.out; rw [hnt] at hto2; rw [hnp] at hpa2; rw [hnt, hnp]; clear hto' hpa'; have hR5' := Lib.hid hR5; have hRD' := Lib.hid hRD; have hnt' := Lib.hid hnt; have hnp' := Lib.hid hnp; have hvl' := Lib.hid hvl; have hlks' := Lib.hid hlks; have hto2' := Lib.hid hto2; have hpa2' := Lib.hid hpa2; clear hR5 hRD hnt hnp hvl hlks hto2 hpa2; clear hR4'
          go_wp2_with (go_at_call 122; refine (must_any _ _ _).mono ?_; rintro e w3 ⟨rfl, rfl⟩; simp only [mustE_t, mustE_f])
          go_loopw [95] (fun iv wr => ∃ (i : Nat) (si : St) (svi : Value) (tki : List Nat) (vs : Value) (subs : List (Int × DirT f)), i ≤ nt ∧ iv = .int .i64 i ∧ Hid (loopS (stepD (dirS K.z K.o (shps K.zs) f) shp) ((toE shp es).drop i) (subs, si) = RD) ∧ Hid (Pk K w.heap.size B B2 w.heap.size gs w w4 sv sv3 #[.slice la ln lc, .int .i64 sat, .int .i64 slong, .int .i64 snx] si svi tki vt vs (.slice none 0 0) tags wr) ∧ Hid (SubsAt (Xv svi) B2 wr f vs subs) ∧ subs.length ≤ i) (fun iv _ => nt - (intOf iv).toNat)
          case atStart => exact ⟨0, si, svi, tki, _, [], by omega, rfl, by rw [List.drop_zero]; exact hRD', hpki, Lib.hid ⟨[], rfl, ⟨own_nil _ _ _ _, fun k e => by cases e⟩, (fun d hd => by cases hd), fun i hi => by cases hi⟩, by simp⟩
          case round =>
            obtain ⟨i, si, svi, tki, vs, subs, hi, rfl, hlp, hpki, hsu, hsl2⟩ := hrel
            by_cases hlt : i < nt
            · have htor := (hto2'.out.keep hpki.out.kp (Nat.le_of_eq hB2.symm)).sl.2
              obtain ⟨be, oe, rfl, hbe, fe⟩ := htor.elem entC_len (by decide) (0, 0, 0, 0) hlt; have hvi := hvl'.out i hlt; have hdc : (toE shp es).drop i = (toE shp es).getD i (0, 0, 0, 0) :: (toE shp es).drop (i + 1) := by rw [List.drop_eq_getElem_cons (by rw [hnt'.out]; exact hlt), getD_el (by rw [hnt'.out]; exact hlt)]
              obtain ⟨⟨x1, x2, x3, x4⟩, hx⟩ : ∃ x, (toE shp es).getD i (0, 0, 0, 0) = x := ⟨_, rfl⟩; rw [hx] at fe hvi hdc; have f0 := fe 0 _ rfl; have f1 := fe 1 _ rfl; have f2 := fe 2 _ rfl; have f3 := fe 3 _ rfl; simp only [Nat.add_zero] at f0 f1 f2 f3; simp only at hvi; clear fe htor; have hin : (i : Int) < nt := by omega
              have hdc' := Lib.hid hdc; have hx' := Lib.hid hx; clear hdc hx
              go_upto_region 16 with fail
              have be5 := Blk.new wr 62 #[.int .i64 x1, .int .i64 x2, .int .i64 x3, .int .i64 x4]; have hal := (Below.refl wr.heap.size wr).alloc (Nat.le_refl _) (.cells #[.int .i64 x1, .int .i64 x2, .int .i64 x3, .int .i64 x4] 62); have hpk5 := hpki.out.later hal; have hsu5 := hsu.out.keep (Kp.later hal); have hszge : B2 ≤ wr.heap.size := hpki.out.sz; have hvs : ∀ k, vs.ownBlock = some k → k < wr.heap.size := fun k e => by obtain ⟨_, _, h, _⟩ := hsu.out; exact (h.1.lt k e).2
              clear f0 f1 f2 f3 hal
              generalize wr.alloc (.cells #[.int .i64 x1, .int .i64 x2, .int .i64 x3, .int .i64 x4] 62) = w5 at *
              generalize wr.heap.size = ge at *
              have c0 : w5.cell? ⟨gs, 0, none⟩ = some (.slice la ln lc) := hpk5.bS.cell rfl; have hlt8 := be5.lt; have hlk5 := hlk0'.out.mono hpk5.ok.old; have HC := lidx_any 162 (.inr rfl) (.pointer (some ⟨ge, 0, none⟩)) la ln lc lks (fun y => y.1 == x1) w5 hlk5 (fun W y hW => dir1_any y ge x1 W (late hW hlt8 (be5.cell rfl)) (Nat.lt_of_lt_of_le hlt8 hW.size)); have hlany : (lks.any fun y => y.1 == x1) = true := by have h := hvi.1; rw [← hshp'.out] at h; exact h
              have hfp : 0 ≤ fst (fun (y : Lk) => y.1 == x1) lks := of_decide_eq_true ((fst_any (p := fun (y : Lk) => y.1 == x1) (l := lks)).trans hlany)
              have hfl : fst (fun (y : Lk) => y.1 == x1) lks < (lks.length : Int) := by
                unfold fst
                cases h : lks.findIdx? (fun (y : Lk) => y.1 == x1) with
                | none => show (-1 : Int) < _; omega
                | some j =>
                  obtain ⟨hj, _⟩ := List.findIdx?_eq_some_iff_getElem.1 h
                  show (j : Int) < _; omega
              obtain ⟨kk, hkk⟩ : ∃ kk : Nat, fst (fun (y : Lk) => y.1 == x1) lks = kk := ⟨(fst (fun (y : Lk) => y.1 == x1) lks).toNat, by omega⟩; have hlnl := hlk5.flen lkc_len (by decide); have hkl : kk < ln := by omega
              obtain ⟨sh', hsh', hshn', hshf'⟩ := hlks'.out kk (by omega); obtain ⟨bl, ol, hlae, hbl, fl0⟩ := hlk0'.out.elem lkc_len (by decide) (0, 0) hkl; have fl1 := fl0 1 _ rfl; rw [hsh'] at fl1; rw [hkk] at HC; have hkli : (kk : Int) < ln := by omega
              have hstep : ∀ subs si, stepD (dirS K.z K.o (shps K.zs) f) shp (subs, si) (x1, x2, x3, x4) = match dirS K.z K.o (shps K.zs) f x4 (sh' : Int) si with
                  | .error e => .error e
                  | .ok ((d, next), s') => if next = 0 then .ok (subs ++ [(x1, d)], s') else .error 2 := fun subs si => by
                unfold stepD; rw [if_pos hvi.1]; have e : (shp.1.getD (fst (fun (y : Lk) => y.1 == x1) shp.1).toNat (0, 0)).2 = (sh' : Int) := by rw [← hshp'.out]; show (lks.getD (fst (fun (y : Lk) => y.1 == x1) lks).toNat (0, 0)).2 = _; rw [hkk, Int.toNat_natCast, hsh']
                show (match dirS K.z K.o (shps K.zs) f x4 (shp.1.getD (fst (fun (y : Lk) => y.1 == x1) shp.1).toNat (0, 0)).2 si with | .error e => _ | .ok ((d, next), s') => _) = _
                rw [e]
              clear hlany hfp hfl hkk hlnl fl0 hlk5; have HC' := Lib.hid HC; have be5' := Lib.hid be5; have hpk5' := Lib.hid hpk5; have hsu5' := Lib.hid hsu5; have hstep' := Lib.hid hstep; have hsh'' := Lib.hid hsh'; have hlae' := Lib.hid hlae; have hvs' := Lib.hid hvs; clear HC be5 hpk5 hsu5 hstep hsh' hlae hvs
              go_wp2_with fail
              refine HC'.out.mono ?_; rintro e w6 ⟨rfl, hb6⟩; have be6 := be5'.out.late hb6; have hpk6 := hpk5'.out.later hb6; have hsu6 := hsu5'.out.keep (Kp.later hb6); clear c0 hb6 HC' be5' hpk5' hsu5'; obtain ⟨Ty3, f3, hne3, hp3, hsurj3⟩ := prop_worlds (fun W => Below K.w0.heap.size K.w0 W ∧ Blk W gs 50 #[.slice la ln lc, .int .i64 sat, .int .i64 slong, .int .i64 snx] ∧ Blk W ge 62 #[.int .i64 x1, .int .i64 x2, .int .i64 x3, .int .i64 x4]) w6 ⟨hpk6.ok.old, hpk6.bS, be6⟩; have d0 : ∀ s, (f3 s).cell? ⟨gs, 0, none⟩ = some (.slice (some ⟨bl, ol, none⟩) ln lc) := fun s => by rw [← hlae'.out]; exact (hp3 s).2.1.cell rfl
              have d3 : ∀ s, (f3 s).cell? ⟨ge, 3, none⟩ = some (.int .i64 x4) := fun s => (hp3 s).2.2.cell rfl; have d4 : ∀ s, (f3 s).cell? ⟨bl, ol + kk * 2 + 1, none⟩ = some (.int .i64 sh') := fun s => by have h := (hp3 s).1; exact late (h.mono (Nat.le_refl _)) hbl fl1
              have hdrewb := (Below.refl w6.heap.size w6).drew; obtain ⟨RI, hRI⟩ : ∃ RI, dirS K.z K.o (shps K.zs) f x4 (sh' : Int) si = RI := ⟨_, rfl⟩
              have hinvI : ∀ r s', RI = .ok (r, s') → Inv K.n s' := fun r s' e => by
                have h := dirS_inv (hRI.trans e) (by rw [hzl'.out]; exact hpk6.inv); rw [hzl'.out] at h; exact h
              have hIH := IH'.out x4 sh' si svi tki; rw [hRI] at hIH; have hst2 := hstep'.out subs si; rw [hRI] at hst2; have hpkd := hpk6.later hdrewb; have HS := Lib.hid (hsurj3 w6.drew ⟨hpkd.ok.old, hpkd.bS, be6⟩); have hsud := hsu6.keep (Kp.later hdrewb); have bed : Blk w6.drew ge 62 #[.int .i64 x1, .int .i64 x2, .int .i64 x3, .int .i64 x4] := be6; have hszd : w6.drew.heap.size = w6.heap.size := rfl; have hgt6 : ge < w6.heap.size := be6.lt; have hBB := hpst'.out.bb; have hgB := hpst'.out.gd2; have hB26 : B2 ≤ w6.heap.size := hpkd.sz; clear hdrewb be6 hpk6 hsu6 fl1 hRI; have hp3' := Lib.hid hp3; have hsurj3' := Lib.hid hsurj3; have hpkd' := Lib.hid hpkd; have hsud' := Lib.hid hsud; have bed' := Lib.hid bed; have hIH' := Lib.hid hIH; have hst2' := Lib.hid hst2; have hinvI' := Lib.hid hinvI; clear hp3 hsurj3 hpkd hsud bed hIH hst2 hinvI
              go_upto_region 17 with fail
              go_cut [19, 20] from 103 to 115 (fun v u wx => ∃ (g19 : Nat) (d : DirT f) (next : Int) (s7 : St) (sv7 : Value) (tk7 : List Nat) (dz : Dz), v = .pointer (some ⟨g19, 0, none⟩) ∧ u = .int .i64 next ∧ Hid (RI = .ok ((d, next), s7)) ∧ Hid (Pk K w.heap.size B B2 w.heap.size gs w w4 sv sv3 #[.slice la ln lc, .int .i64 sat, .int .i64 slong, .int .i64 snx] s7 sv7 tk7 vt vs (.slice none 0 0) tags wx) ∧ Hid (SubsAt (Xv sv7) B2 wx f vs subs) ∧ Hid (DirAt (Xv sv7) w6.heap.size wx f d dz) ∧ Hid (Blk wx g19 42 #[dz.1, dz.2.1, dz.2.2]) ∧ Hid (Blk wx ge 62 #[.int .i64 x1, .int .i64 x2, .int .i64 x3, .int .i64 x4]))
              case first =>
                -- DEV{R17
                refine held_begin (S := fun W => ∃ s, W = f3 s) (by kernel_rfl) 16 rfl ?_; refine held_take [0, 1, 2, 3, 4, 5, 6, 7, 8] 7 (by kernel_rfl) (fun d _ _ _ _ h => by cases d <;> exact h) (by kernel_rfl) (by kernel_rfl) (by kernel_rfl) HS.out ?_; simp only [pickL, List.map_cons, List.map_nil, List.getD_cons_succ, List.getD_cons_zero]
                iterate 9 (go_big_quiet_step (fail))
                refine wpQuiet_nil ?_; refine held_two 9 13 6 (by kernel_rfl) (by kernel_rfl) ?_ ?_
                all_goals simp only [pickL, List.map_cons, List.map_nil, List.getD_cons_succ, List.getD_cons_zero]
                case refine_1 =>
                  -- DEV{R17a
                  clear d0 d3 d4
                  go_wp2_with fail
                  refine (hIH'.out w6.drew hpkd'.out.ok hpkd'.out.inv hvi.2.1 hvi.2.2 hshn' hshf').mono ?_; rintro e w7 hpost
                  cases RI with
                  | error y =>
                    obtain ⟨rfl, sv', hmv⟩ := hpost; have hlp3 := hlp.out; rw [hdc'.out, loopS_cons_err (hst2'.out.trans rfl)] at hlp3; subst hlp3; obtain rfl : R = .error y := by rw [← hR5'.out]
                    have hmv' := Lib.hid hmv; clear hmv
                    go_wp2_with fail
                    refine mid_panic ?_
                    go_wp2_with fail
                    exact ⟨rfl, rfl, sv', hpkd'.out.mv.trans hmv'.out⟩
                  | ok ri =>
                    obtain ⟨⟨d, next⟩, s7⟩ := ri; obtain ⟨sv7, tk7, hok7, hmv7, dz, rfl, hdir7⟩ := hpost; obtain ⟨a1', n1', c1', a2', n2', c2', a3', n3', c3', rfl⟩ := hdir7.slices; simp only at hdir7; have hpk7 := hpkd'.out.mv2 hpst'.out hmv7 hok7 (hinvI'.out _ s7 rfl); have hsz7 : w6.heap.size ≤ w7.heap.size := hmv7.size; have hsu7 := hsud'.out.keep (Kp.mv hmv7 (show K.g < B2 by omega) (show K.gt < B2 by omega)); have bed7 := bed'.out.mv hmv7 (show ge ≠ K.g by omega) (show ge ≠ K.gt by omega) (fun e => own_ne_blk hpkd'.out.ok.spot bed'.out (by decide) e); have HS := Lib.hid (hsurj3'.out w7 ⟨hok7.old, hpk7.bS, bed7⟩); clear hmv7 hok7 hpkd' hsud' bed' hIH' hst2' hinvI'; have hpk7' := Lib.hid hpk7; have hsu7' := Lib.hid hsu7; have bed7' := Lib.hid bed7; have hdir7' := Lib.hid hdir7; clear hpk7 hsu7 bed7 hdir7
                    go_wp2_with fail
                    first | refine Mid.mk ⟨HS.out, ?_⟩ | refine Mid.mk ?_
                    refine held_take [10, 11, 12] 3 (by kernel_rfl) (fun d _ _ _ _ h => by cases d <;> exact h) (by kernel_rfl) (by kernel_rfl) (by kernel_rfl) HS.out ?_; simp only [pickL, List.map_cons, List.map_nil, List.getD_cons_succ, List.getD_cons_zero]
                    iterate 3 (go_big_quiet_step (fail))
                    refine wpQuiet_nil ?_; refine held_one 13 2 (by kernel_rfl) (by kernel_rfl) ?_; simp only [pickL, List.map_cons, List.map_nil, List.getD_cons_succ, List.getD_cons_zero]
                    go_wp2_with fail
                    have hal := (Below.refl w7.heap.size w7).alloc (Nat.le_refl _) (.cells #[.slice none 0 0, .slice none 0 0, .slice none 0 0] 42); have hpk8 := hpk7'.out.later hal; have bed8 := bed7'.out.late hal; have b19 := Blk.new w7 42 #[.slice none 0 0, .slice none 0 0, .slice none 0 0]; obtain ⟨w8, hw8⟩ : ∃ w8, w7.alloc (.cells #[.slice none 0 0, .slice none 0 0, .slice none 0 0] 42) = w8 := ⟨_, rfl⟩; rw [hw8] at hal hpk8 bed8 b19; rw [hw8]; obtain ⟨g19, hg19⟩ : ∃ g, w7.heap.size = g := ⟨_, rfl⟩; rw [hg19] at b19; rw [hg19]; have HS := Lib.hid (hsurj3'.out w8 ⟨hpk8.ok.old, hpk8.bS, bed8⟩); have p0 : w8.cell? ⟨g19, 0, none⟩ = some (.slice none 0 0) := b19.cell rfl; have p1 : w8.cell? ⟨g19, 1, none⟩ = some (.slice none 0 0) := b19.cell rfl; have p2 : w8.cell? ⟨g19, 2, none⟩ = some (.slice none 0 0) := b19.cell rfl; have y0 := b19.frozen 0; have y1 := b19.frozen 1; have y2 := b19.frozen 2; clear hw8 hpk8 bed8; have hal' := Lib.hid hal; have b19' := Lib.hid b19; have hg19' := Lib.hid hg19; clear hal b19 hg19
                    first | refine Mid.mk ⟨HS.out, ?_⟩ | refine Mid.mk ?_
                    refine held_one 14 1 (by kernel_rfl) (by kernel_rfl) ?_; simp only [pickL, List.map_cons, List.map_nil, List.getD_cons_succ, List.getD_cons_zero]
                    go_wp2_with fail
                    have hb79 := below_set3 hal'.out (Nat.le_of_eq hg19'.out) (.slice a1' n1' c1') (.slice a2' n2' c2') (.slice a3' n3' c3'); have b199 := b19'.out.set3 (.slice a1' n1' c1') (.slice a2' n2' c2') (.slice a3' n3' c3'); have hpk9 := hpk7'.out.later hb79; have hsu9 := hsu7'.out.keep (Kp.later hb79); have bed9 := bed7'.out.late hb79; have hdir9 := hdir7'.out.keep (Kp.later hb79); have HS := Lib.hid (hsurj3'.out _ ⟨hpk9.ok.old, hpk9.bS, bed9⟩); clear p0 p1 p2 y0 y1 y2 hb79; have b199' := Lib.hid b199; have hpk9' := Lib.hid hpk9; have hsu9' := Lib.hid hsu9; have bed9' := Lib.hid bed9; have hdir9' := Lib.hid hdir9; clear b199 hpk9 hsu9 bed9 hdir9; refine Mid.mk ⟨HS.out, ?_⟩; refine held_take [15] 0 (by kernel_rfl) (fun d _ _ _ _ h => by cases d <;> exact h) (by kernel_rfl) (by kernel_rfl) (by kernel_rfl) HS.out ?_; simp only [pickL, List.map_cons, List.map_nil, List.getD_cons_succ, List.getD_cons_zero]
                    iterate 1 (go_big_quiet_step (fail))
                    refine wpQuiet_nil ?_; refine held_last (by kernel_rfl) ?_
                    go_wp2_with fail
                    go_meet
                    exact ⟨g19, d, next, s7, sv7, tk7, (.slice a1' n1' c1', .slice a2' n2' c2', .slice a3' n3' c3'), rfl, rfl, Lib.hid rfl, hpk9', hsu9', hdir9', b199', bed9'⟩
                  -- }DEV
                case refine_2 =>
                  -- DEV{R17b
                  clear d0 d3 d4
                  go_wp2_with fail
                  have hal : Below w6.drew.heap.size w6.drew (w6.alloc (.cells #[.slice none 0 0, .slice none 0 0, .slice none 0 0] 42)).drew := (Below.refl w6.drew.heap.size w6.drew).alloc (Nat.le_refl _) (.cells #[.slice none 0 0, .slice none 0 0, .slice none 0 0] 42); have b19 : Blk (w6.alloc (.cells #[.slice none 0 0, .slice none 0 0, .slice none 0 0] 42)).drew w6.heap.size 42 #[.slice none 0 0, .slice none 0 0, .slice none 0 0] := Blk.new w6 _ _; have hpka := hpkd'.out.later hal; have hsua := hsud'.out.keep (Kp.later hal); have beda := bed'.out.late hal; have hsva : ∀ k, svi.ownBlock = some k → k < w6.heap.size := fun k e => (hpkd'.out.ok.spot.lt k e).2; obtain ⟨wa, hwa⟩ : ∃ wa, (w6.alloc (.cells #[.slice none 0 0, .slice none 0 0, .slice none 0 0] 42)).drew = wa := ⟨_, rfl⟩; rw [hwa] at hal b19 hpka hsua beda; rw [hwa]; have hsz6a : w6.heap.size ≤ wa.heap.size := hal.size; have HS := Lib.hid (hsurj3'.out wa ⟨hpka.ok.old, hpka.bS, beda⟩); clear hwa hal; have b19' := Lib.hid b19; have hpka' := Lib.hid hpka; have hsua' := Lib.hid hsua; have beda' := Lib.hid beda; have hsva' := Lib.hid hsva; clear b19 hpka hsua beda hsva
                  first | refine Mid.mk ⟨HS.out, ?_⟩ | refine Mid.mk ?_
                  refine held_one 9 5 (by kernel_rfl) (by kernel_rfl) ?_; simp only [pickL, List.map_cons, List.map_nil, List.getD_cons_succ, List.getD_cons_zero]
                  go_wp2_with fail
                  refine (hIH'.out wa hpka'.out.ok hpka'.out.inv hvi.2.1 hvi.2.2 hshn' hshf').mono ?_; rintro e w7 hpost
                  cases RI with
                  | error y =>
                    obtain ⟨rfl, sv', hmv⟩ := hpost; have hlp3 := hlp.out; rw [hdc'.out, loopS_cons_err (hst2'.out.trans rfl)] at hlp3; subst hlp3; obtain rfl : R = .error y := by rw [← hR5'.out]
                    have hmv' := Lib.hid hmv; clear hmv
                    go_wp2_with fail
                    refine mid_panic ?_
                    go_wp2_with fail
                    exact ⟨rfl, rfl, sv', hpka'.out.mv.trans hmv'.out⟩
                  | ok ri =>
                    obtain ⟨⟨d, next⟩, s7⟩ := ri; obtain ⟨sv7, tk7, hok7, hmv7, dz, rfl, hdir7⟩ := hpost; obtain ⟨a1', n1', c1', a2', n2', c2', a3', n3', c3', rfl⟩ := hdir7.slices; simp only at hdir7; have hpk7 := hpka'.out.mv2 hpst'.out hmv7 hok7 (hinvI'.out _ s7 rfl); have hsu7 := hsua'.out.keep (Kp.mv hmv7 (show K.g < B2 by omega) (show K.gt < B2 by omega)); have bed7 := beda'.out.mv hmv7 (show ge ≠ K.g by omega) (show ge ≠ K.gt by omega) (fun e => own_ne_blk hpka'.out.ok.spot beda'.out (by decide) e); have b197 := b19'.out.mv hmv7 (show w6.heap.size ≠ K.g by omega) (show w6.heap.size ≠ K.gt by omega) (fun e => by have := hsva'.out _ e; omega); have HS := Lib.hid (hsurj3'.out w7 ⟨hok7.old, hpk7.bS, bed7⟩); have hdir7 := hdir7.mono hsz6a; clear hmv7 hok7 hpkd' hsud' bed' hIH' hst2' hinvI' hpka' hsua' beda' b19'; obtain ⟨g19, hg19⟩ : ∃ g, w6.heap.size = g := ⟨_, rfl⟩; rw [hg19] at b197; rw [hg19]; have p0 : w7.cell? ⟨g19, 0, none⟩ = some (.slice none 0 0) := b197.cell rfl; have p1 : w7.cell? ⟨g19, 1, none⟩ = some (.slice none 0 0) := b197.cell rfl; have p2 : w7.cell? ⟨g19, 2, none⟩ = some (.slice none 0 0) := b197.cell rfl; have y0 := b197.frozen 0; have y1 := b197.frozen 1; have y2 := b197.frozen 2; have hpk7' := Lib.hid hpk7; have hsu7' := Lib.hid hsu7; have bed7' := Lib.hid bed7; have hdir7' := Lib.hid hdir7; have b197' := Lib.hid b197; have hg19' := Lib.hid hg19; clear hpk7 hsu7 bed7 hdir7 b197 hg19
                    go_wp2_with fail
                    first | refine Mid.mk ⟨HS.out, ?_⟩ | refine Mid.mk ?_
                    refine held_take [10, 11, 12] 2 (by kernel_rfl) (fun d _ _ _ _ h => by cases d <;> exact h) (by kernel_rfl) (by kernel_rfl) (by kernel_rfl) HS.out ?_; simp only [pickL, List.map_cons, List.map_nil, List.getD_cons_succ, List.getD_cons_zero]
                    iterate 3 (go_big_quiet_step (fail))
                    refine wpQuiet_nil ?_; refine held_one 14 1 (by kernel_rfl) (by kernel_rfl) ?_; simp only [pickL, List.map_cons, List.map_nil, List.getD_cons_succ, List.getD_cons_zero]
                    go_wp2_with fail
                    have hbt := ((((But.refl g19 w7).set 0 (.slice a1' n1' c1')).set 1 (.slice a2' n2' c2')).set 2 (.slice a3' n3' c3')); have b199 := b197'.out.set3 (.slice a1' n1' c1') (.slice a2' n2' c2') (.slice a3' n3' c3'); have hpk9 := hpk7'.out.butHi (vt' := vt) (tags' := tags) hpst'.out hbt (by have := hg19'.out; omega) (own_ne_blk hpk7'.out.ok.spot b197'.out (by decide)) hB2 rfl (hpk7'.out.tg.butT hbt b197'.out); have hsu9 := hsu7'.out.butT hbt b197'.out; have bed9 := bed7'.out.but hbt (show ge ≠ g19 by have := hg19'.out; omega); have hdir9 := hdir7'.out.butT hbt b197'.out; have HS := Lib.hid (hsurj3'.out _ ⟨hpk9.ok.old, hpk9.bS, bed9⟩); clear p0 p1 p2 y0 y1 y2 hbt; have b199' := Lib.hid b199; have hpk9' := Lib.hid hpk9; have hsu9' := Lib.hid hsu9; have bed9' := Lib.hid bed9; have hdir9' := Lib.hid hdir9; clear b199 hpk9 hsu9 bed9 hdir9; refine Mid.mk ⟨HS.out, ?_⟩; refine held_take [15] 0 (by kernel_rfl) (fun d _ _ _ _ h => by cases d <;> exact h) (by kernel_rfl) (by kernel_rfl) (by kernel_rfl) HS.out ?_; simp only [pickL, List.map_cons, List.map_nil, List.getD_cons_succ, List.getD_cons_zero]
                    iterate 1 (go_big_quiet_step (fail))
                    refine wpQuiet_nil ?_; refine held_last (by kernel_rfl) ?_
                    go_wp2_with fail
                    go_meet
                    exact ⟨g19, d, next, s7, sv7, tk7, (.slice a1' n1' c1', .slice a2' n2' c2', .slice a3' n3' c3'), rfl, rfl, Lib.hid rfl, hpk9', hsu9', hdir9', b199', bed9'⟩
                  -- }DEV
                -- }DEV
              case rest =>
                -- DEV{REST
                obtain ⟨g19, d, next, s7, sv7, tk7, dz, rfl, rfl, hRIo, hpk7, hsu7, hdir7, b197, bed7⟩ := hcut
                rename World => w7
                have hst3 := hst2'.out; rw [hRIo.out] at hst3; simp only at hst3; have hlp3 := hlp.out; rw [hdc'.out] at hlp3; clear hIH' hst2' hinvI' hpkd' hsud' bed' hsurj3' hp3' HS d0 d3 d4
                by_cases hnx : next = 0
                · have dn : (next == 0) = true := by simp [hnx]
                  rw [if_pos hnx] at hst3; rw [loopS_cons_ok hst3] at hlp3; obtain ⟨a1', n1', c1', a2', n2', c2', a3', n3', c3', rfl⟩ := hdir7.out.slices; simp only at b197; obtain ⟨dsz, hds1, hds2, _, _⟩ := hsu7.out; rw [hds1] at hds2; obtain ⟨as_, cs, rfl⟩ := own_v' hds2.1; have hown7 := hds2.1; have hvsX := hds2.2; have t0 : w7.cell? ⟨ge, 0, none⟩ = some (.int .i64 x1) := bed7.out.cell rfl; have q1 : w7.cell? ⟨w.heap.size, 1, none⟩ = some (.slice as_ subs.length cs) := hpk7.out.bD.cell rfl; have e0 : w7.cell? ⟨g19, 0, none⟩ = some (.slice a1' n1' c1') := b197.out.cell rfl; have e1 : w7.cell? ⟨g19, 1, none⟩ = some (.slice a2' n2' c2') := b197.out.cell rfl; have e2 : w7.cell? ⟨g19, 2, none⟩ = some (.slice a3' n3' c3') := b197.out.cell rfl; clear hnx hst3 hds1 hds2 hRIo; have hal := (Below.refl w7.heap.size w7).alloc (Nat.le_refl _) (.cells #[.int .i64 x1, .slice a1' n1' c1', .slice a2' n2' c2', .slice a3' n3' c3'] 44); have hpk8 := hpk7.out.later hal; have hsu8 := hsu7.out.keep (Kp.later hal); have hdir8 := hdir7.out.keep (Kp.later hal); have hown8 := own_later hown7 hal; have hnew : Sl (w7.alloc (.cells #[.int .i64 x1, .slice a1' n1' c1', .slice a2' n2' c2', .slice a3' n3' c3'] 44)) (some ⟨w7.heap.size, 0, none⟩) 1 1 4 (sbC (x1, (.slice a1' n1' c1', .slice a2' n2' c2', .slice a3' n3' c3'))) := Sl.new w7 44 4 1 #[.int .i64 x1, .slice a1' n1' c1', .slice a2' n2' c2', .slice a3' n3' c3'] (0, 0) (by omega) rfl; have hB28 := hpk8.sz; have hgtd : (Value.slice as_ subs.length cs).ownBlock ≠ some w.heap.size := own_ne_blk hown8 hpk8.bD (by decide); clear hal hpk7 hsu7 hdir7; have hlp3' := Lib.hid hlp3; have hown7' := Lib.hid hown7; have hvsX' := Lib.hid hvsX; have hpk8' := Lib.hid hpk8; have hsu8' := Lib.hid hsu8; have hdir8' := Lib.hid hdir8; have hown8' := Lib.hid hown8; have hnew' := Lib.hid hnew; have hgtd' := Lib.hid hgtd; have hB28' := Lib.hid hB28; clear hlp3 hown7 hvsX hpk8 hsu8 hdir8 hown8 hnew hgtd hB28
                  go_wp2_with (first | (go_at_call 122; refine (must_any _ _ _).mono ?_; rintro e w3 ⟨rfl, rfl⟩; simp only [mustE_t, mustE_f]) | (at_builtin; refine wpList_app2 rfl _ _ 40 rfl B2 44 i1 z1 4 80 Tryz.underlying40 hi1 hy hy1 hy2 hy3 (by decide) (.slice as_ subs.length cs) subs.length _ rfl hown8'.out ⟨w7.heap.size, 0, none⟩ 1 1 (sbC (x1, (.slice a1' n1' c1', .slice a2' n2' c2', .slice a3' n3' c3'))) rfl hnew'.out (sbC_sl _ _ _ _ _ _ _ _ _ _) (by omega) (by decide) hB28'.out ?_; intro a9 c9 w9 ob hg9 ho9; have bD9 := hpk8'.out.bD.grown hg9 hgtd'.out; have q1 : w9.cell? ⟨w.heap.size, 1, none⟩ = some (.slice as_ subs.length cs) := bD9.cell rfl; have y1 := bD9.frozen 1; have BD9 := Lib.hid bD9; have Ob := Lib.hid ob; have Hg9 := Lib.hid hg9; have Ho9 := Lib.hid ho9; clear ob hg9 ho9 bD9))
                  clear t0 e0 e1 e2 hown7'
                  generalize w7.alloc (.cells #[.int .i64 x1, .slice a1' n1' c1', .slice a2' n2' c2', .slice a3' n3' c3'] 44) = w8 at *
                  have hX9 : ∀ k, (Value.slice a9 (subs.length + 1) c9).ownBlock = some k → ¬ Xv sv7 k := fun k e h => by
                    rcases Ho9.out k e with h1 | h1
                    · exact hvsX'.out k h1 h
                    · have := (hpk8'.out.ok.spot.lt k h).2; omega
                  have hbt := (But.refl w.heap.size w9).set 1 (.slice a9 (subs.length + 1) c9); have htg9 := own_tags_ne hpk8'.out.tg hown8'.out Hg9.out (by decide) (by decide); have hpk10 := hpk8'.out.app hpst'.out Hg9.out (fun r e => ⟨(hown8'.out.lt r e).1, fun h => hvsX'.out r e h⟩) hB2 rfl hbt (BD9.out.set 1 (.slice a9 (subs.length + 1) c9)) htg9; have hdirS : DirAt (fun k => Xv sv7 k ∨ (Value.slice as_ subs.length cs).ownBlock = some k) B2 w8 f d (.slice a1' n1' c1', .slice a2' n2' c2', .slice a3' n3' c3') := (hdir8'.out.keep (Kp.same (fun k hB hk hx e => e.elim hx (fun e => by have := hvs'.out k e; omega)))).mono hB26; have hsu9 := SubsAt.snoc (t := x1) (v' := .slice a9 (subs.length + 1) c9) hsu8'.out rfl Hg9.out Ho9.out (fun ds2 h2 => by rw [own_inj h2 hown8'.out]; exact Ob.out) hX9 (dvC_sl _ _ _ _ _ _ _ _ _) hdirS; have hsu10 := hsu9.butT hbt BD9.out; clear hdirS hsu9 htg9 hX9 hbt q1 y1 Ob Hg9 Ho9 BD9 hpk8' hsu8' hdir8' hown8' hnew'; have hpk10' := Lib.hid hpk10; have hsu10' := Lib.hid hsu10; clear hpk10 hsu10
                  go_roundw
                  case rel => exact ⟨i + 1, s7, sv7, tk7, .slice a9 (subs.length + 1) c9, subs ++ [(x1, d)], by omega, by go_num, hlp3', hpk10', hsu10', by simp; omega⟩
                  case measure => simp [intOf]; omega
                · have dn : (next == 0) = false := by simp [hnx]
                  rw [if_neg hnx] at hst3; rw [loopS_cons_err hst3] at hlp3; subst hlp3; obtain rfl : R = .error 2 := by rw [← hR5'.out]
                  clear hnx hst3 hRIo
                  go_wp2_with (go_at_call 122; refine (must_any _ _ _).mono ?_; rintro e w3 ⟨rfl, rfl⟩; simp only [mustE_t, mustE_f])
                  exact ⟨rfl, rfl, sv7, hpk7.out.mv⟩
                -- }DEV
            · have hie : i = nt := by omega
              have hlp2 := hlp.out; rw [List.drop_of_length_le (by rw [hnt'.out]; omega)] at hlp2; simp only [loopS] at hlp2; subst hlp2; subst hie; have hR6 := hR5'.out; simp only at hR6; clear hlp hR5' hRD' IH' hvl' hlks' hto2'; obtain ⟨zsT, hzsT, hownT⟩ := hpki.out.tg.own; obtain ⟨av, cv, rfl⟩ := own_v' hownT; obtain ⟨dsz, hds1, hds2, _, _⟩ := hsu.out; rw [hds1] at hds2; obtain ⟨as_, cs, rfl⟩ := own_v' hds2.1; clear hzsT hownT hds1 hds2; have hA2 : w.heap.size ≤ B2 := by have h1 := hpst'.out.gd1; have h2 := hpst'.out.gd2; have h3 := hpst'.out.bb; omega
              have hwm : IntKind.i64.wrap (12 * (es.length : Int)) = 12 * es.length := by rw [IntKind.wrap_i64]; omega
              have hwp : IntKind.i64.wrap (p + 2) = p + 2 := by rw [IntKind.wrap_i64]; omega
              have hwq : IntKind.i64.wrap (p + 2 + 12 * (es.length : Int)) = p + 2 + 12 * es.length := by rw [IntKind.wrap_i64]; omega
              have HN : ∀ W, Sl W K.a K.n K.c 1 (ints .u8 K.z) → Calls Tryz.prog 157 #[.agg #[.slice K.a K.n K.c, .int .i64 K.o], .int .i64 (p + 2 + 12 * es.length), .int .i64 4] W fun e w' => e = .returned (.int .i64 (getV K.z (p + 2 + 12 * es.length) 4 K.o)) ∧ Below W.heap.size W w' := fun W h => bnum_any K.a K.n K.c K.z K.o (p + 2 + 12 * es.length) 4 W h t'.out.byt; obtain ⟨nxv, hnxv⟩ : ∃ v, getV K.z (p + 2 + 12 * es.length) 4 K.o = v := ⟨_, rfl⟩; rw [hnxv] at HN hR6; clear hnxv; have HN' := Lib.hid HN; have hR6' := Lib.hid hR6; clear HN hR6
              by_cases hp2 : np = 2
              · skip
                -- DEV{PAIR
                have d5 : ((np : Int) == 2) = true := by simp; omega
                have hmi0 : (0 : Int) < (np : Int) := by omega
                have hmi1 : (1 : Int) < (np : Int) := by omega
                have d6 : decide ((0 : Int) < (np : Int)) = true := by simp; omega
                have d7 : decide (0 < np) = true := by simp; omega
                have d8 : decide ((1 : Int) < (np : Int)) = true := by simp; omega
                have d9 : decide (1 < np) = true := by simp; omega
                have hpar := (hpa2'.out.keep hpki.out.kp (Nat.le_of_eq hB2.symm)).sl.2
                obtain ⟨X, Y, hXY⟩ : ∃ X Y, pairE shp es = [X, Y] := by
                  have h := hnp'.out; rw [hp2] at h
                  match hq : pairE shp es, h with
                  | [X, Y], _ => exact ⟨X, Y, rfl⟩
                have hmX : ∀ Z ∈ pairE shp es, 0 ≤ Z.2.2.2 ∧ Z.2.2.2 ≤ 4294967295 := fun Z hZ => by
                  unfold pairE at hZ; exact entsS_mem t'.out.byt (by rw [← hes'.out.1]; exact (List.mem_filter.1 hZ).1)
                obtain ⟨be, oe, rfl, hbe, fe⟩ := hpar.elem entC_len (by decide) (0, 0, 0, 0) (show 0 < np by omega); obtain ⟨be', oe', hae, _, fe'⟩ := hpar.elem entC_len (by decide) (0, 0, 0, 0) (show 1 < np by omega); injection hae with hae; injection hae with hae1 hae2 _; subst hae1 hae2; rw [hXY] at fe fe' hmX; obtain ⟨X1, X2, X3, X4⟩ := X; obtain ⟨Y1, Y2, Y3, Y4⟩ := Y; have hX4 := hmX (X1, X2, X3, X4) (by simp); have hY4 := hmX (Y1, Y2, Y3, Y4) (by simp); simp only at hX4 hY4; have hbs := blobS_two (z := K.z) (no := s.no) (s := si) hXY; rw [hzl'.out] at hbs; simp only at hbs; have f3 := fe 3 _ rfl; have f3' := fe' 3 _ rfl; simp only [Nat.add_zero, Nat.zero_mul] at f3; have f4' : wr.cell? ⟨be, oe + 4 + 3, none⟩ = some (.int .i64 Y4) := f3'; have f5' : wr.cell? ⟨be, oe + 7, none⟩ = some (.int .i64 Y4) := f3'; clear fe fe' hmX hXY hp2 hp1; have hbs' := Lib.hid hbs; clear hbs
                go_upto_region 22 with fail
                go_cut [21, 22] from 132 to 139 (fun v u wx => v = .int .i64 X4 ∧ u = .int .i64 Y4 ∧ ∃ m, wx = wr.drewN m)
                case first =>
                  go_quiet (fail)
                  go_wp2_with fail
                  go_meet
                  exact ⟨rfl, rfl, _, rfl⟩
                case rest =>
                  obtain ⟨rfl, rfl, mm, hwx⟩ := hcut
                  rename World => w5
                  have hbq : Below wr.heap.size wr w5 := by rw [hwx]; exact below_drewN (Below.refl _ _) _
                  have hpk5 := hpki.out.later hbq; have hsu5 := hsu.out.keep (Kp.later hbq); clear hwx hbq f3 f3' f4' f5' hpki hsu d6 d7 d8 d9
                  by_cases hy0 : 0 < Y4
                  · have dy : decide (0 < Y4) = true := by simp; omega
                    obtain ⟨XN, rfl⟩ : ∃ n : Nat, X4 = n := ⟨X4.toNat, by omega⟩; obtain ⟨YN, rfl⟩ : ∃ n : Nat, Y4 = n := ⟨Y4.toNat, by omega⟩; have dyn : decide (0 < YN) = true := by have := of_decide_eq_true dy; simp; omega
                    have hbs2 := hbs'.out; rw [if_pos hy0] at hbs2; have HT := take_any K t'.out si svi tki w5 (4, s.no, 0, (XN : Int), (YN : Int)) hpk5.ok XN YN rfl rfl (by omega) (by omega) (by have := hpk5.inv.le; omega); obtain ⟨T, hT⟩ : ∃ T, takeS K.n (4, s.no, 0, (XN : Int), (YN : Int)) si = T := ⟨_, rfl⟩; rw [hT] at HT hbs2; have hR7 := hR6'.out; rw [hbs2] at hR7; clear hbs2 hbs' hR6' hy0; have HT' := Lib.hid HT; have hpk5' := Lib.hid hpk5; have hsu5' := Lib.hid hsu5; have hR7' := Lib.hid hR7; clear HT hpk5 hsu5 hR7
                    go_wp2_with (go_at_call 122; refine (must_any _ _ _).mono ?_; rintro e w3 ⟨rfl, rfl⟩; simp only [mustE_t, mustE_f])
                    refine HT'.out.mono ?_; rintro e w8 hpost
                    cases T with
                    | error y =>
                      obtain rfl : R = .error y := by rw [← hR7'.out]
                      obtain ⟨rfl, sv', hmv⟩ := hpost; clear hR7' hT HT'; have hmv' := Lib.hid hmv; clear hmv
                      go_wp2_with fail
                      exact ⟨rfl, rfl, sv', hpk5'.out.mv.trans hmv'.out⟩
                    | ok s8 =>
                      obtain ⟨sv8, tk8, hok8, hmv8, rfl⟩ := hpost
                      have hfit : XN + YN ≤ K.n := by
                        have := takeS_fit hT; unfold fitB roomB at this
                        simp at this
                        omega
                      have hinv8 : Inv K.n s8 := takeS_inv hT (by show (1 : Int) ≤ YN; have := of_decide_eq_true dy; omega) hpk5'.out.inv; have hpk8 := hpk5'.out.mv2 hpst'.out hmv8 hok8 hinv8; have hsu8 := hsu5'.out.keep (Kp.mv hmv8 (show K.g < B2 by have := hpst'.out.bb; have := hpst'.out.gd2; omega) (show K.gt < B2 by have := hpst'.out.bb; have := hpst'.out.gd2; omega)); have hR8 := hR7'.out; simp only [Int.toNat_natCast] at hR8; have hb8 := hok8.byts t'.out; have hle8 := hb8.le; obtain ⟨a7, hsl, hs7, hin7⟩ := sub_lh (P := Tryz.prog) (T := 30) (E := 5) (sz := 1) Tryz.underlying30 (fun W => by kernel_rfl) hb8 (XN : Int) ((XN : Int) + YN) (by omega) (by omega) (by omega) YN (K.c - XN) (by omega) (by omega); rw [Nat.mul_one, Nat.mul_one, Int.toNat_natCast, show ((ints .u8 K.z).drop XN).take YN = ints .u8 ((K.z.drop XN).take YN) by simp [ints, List.map_take, List.map_drop]] at hs7; have hwa : IntKind.i64.wrap ((XN : Int) + YN) = XN + YN := by rw [IntKind.wrap_i64]; omega
                      have k0 : w8.cell? ⟨K.g, 0, none⟩ = some (.slice K.a K.n K.c) := hok8.blk.cell rfl; have hbl : ((K.z.drop XN).take YN).length = YN := by rw [List.length_take, List.length_drop, hzl'.out]; omega
                      obtain ⟨bz, hbz⟩ : ∃ l, (K.z.drop XN).take YN = l := ⟨_, rfl⟩; rw [hbz] at hs7 hR8 hbl; have HCl := bclone_own a7 YN (K.c - XN) bz w8 hs7 (by omega); clear hbz hs7 hin7 hok8 hmv8 hb8 hR7' hT HT' hpk5' hsu5' hinv8; have hpk8' := Lib.hid hpk8; have hsu8' := Lib.hid hsu8; have hR8' := Lib.hid hR8; have HCl' := Lib.hid HCl; have hbl' := Lib.hid hbl; clear hpk8 hsu8 hR8 HCl hbl
                      go_wp2_with fail
                      refine HCl'.out.mono ?_; rintro e w9 ⟨a9, c9, rfl, hown9, hb9⟩; have hpk9 := hpk8'.out.later hb9; have hsu9 := hsu8'.out.keep (Kp.later hb9); have hck9 : Ck (Xv sv8) w8.heap.size w9 (.slice a9 YN c9) 5 1 YN (ints .u8 bz) := ⟨hown9, fun k e h => by have h1 := (hown9.lt k e).1; have h2 := (hpk8'.out.ok.spot.lt k h).2; omega⟩; have hbt := (But.refl w.heap.size w9).set 2 (.slice a9 YN c9); have hsz8 : B2 ≤ w8.heap.size := hpk8'.out.sz; have q2 : w9.cell? ⟨w.heap.size, 2, none⟩ = some (.slice none 0 0) := hpk9.bD.cell rfl; have y2 := hpk9.bD.frozen 2; have hpkE := hpk9.setD hpst'.out hbt (hpk9.bD.set 2 (.slice a9 YN c9)) hpk9.tg rfl; have hsuE := hsu9.butT hbt hpk9.bD; have hckE := ck_butT hck9 hbt hpk9.bD (by decide)
                      replace hckE : Ck (Xv sv8) w8.heap.size (w9.setCell ⟨w.heap.size, 2, none⟩ (.slice a9 YN c9)) (.slice a9 YN c9) 5 1 bz.length (ints .u8 bz) := by rw [hbl'.out]; exact hckE
                      clear hown9 hb9 hpk9 hsu9 hck9 hbt k0 HCl' hpk8' hsu8'; have hpkE' := Lib.hid hpkE; have hsuE' := Lib.hid hsuE; have hckE' := Lib.hid hckE; clear hpkE hsuE hckE
                      go_upto_region 26 with fail
                      clear q2 y2
                      generalize w9.setCell ⟨w.heap.size, 2, none⟩ (.slice a9 YN c9) = wE at *
                      have hA3 : w.heap.size ≤ w8.heap.size := by omega
                      obtain rfl : R = .ok (((tags, subs, bz), nxv), s8) := hR8'.out.symm; have hokE := hpkE'.out.ok; have HNN := fun W (h : Below wE.heap.size wE W) => HN'.out W ((hokE.byts t'.out).mono h); have bDE := hpkE'.out.bD; obtain ⟨Ty4, f4, hne4, hbel4, hsurj4⟩ := later_worlds wE; have q0 : ∀ s, (f4 s).cell? ⟨K.g, 0, none⟩ = some (.slice K.a K.n K.c) := fun s => (Blk.late hokE.blk (hbel4 s)).cell rfl; have q1 : ∀ s, (f4 s).cell? ⟨K.g, 1, none⟩ = some (.int .i64 K.o) := fun s => (Blk.late hokE.blk (hbel4 s)).cell rfl; have e0 : ∀ s, (f4 s).cell? ⟨w.heap.size, 0, none⟩ = some (.slice av tags.length cv) := fun s => (Blk.late bDE (hbel4 s)).cell rfl; have e1 : ∀ s, (f4 s).cell? ⟨w.heap.size, 1, none⟩ = some (.slice as_ subs.length cs) := fun s => (Blk.late bDE (hbel4 s)).cell rfl; have e2 : ∀ s, (f4 s).cell? ⟨w.heap.size, 2, none⟩ = some (.slice a9 YN c9) := fun s => (Blk.late bDE (hbel4 s)).cell rfl; have HS := Lib.hid (hsurj4 _ ((Below.refl _ _).drew)); have HD := Lib.hid ((Below.refl wE.heap.size wE).drew); have hokE' := Lib.hid hokE; have HNN' := Lib.hid HNN; have bDE' := Lib.hid bDE; have hbel4' := Lib.hid hbel4; have hsurj4' := Lib.hid hsurj4; clear hokE HNN bDE hbel4 hsurj4
                      go_wp2_with fail
                      refine held_begin (S := fun W => ∃ s, W = f4 s) (by kernel_rfl) 14 rfl ?_; refine held_take [0, 1, 2, 3, 4, 5, 6, 7, 8, 9, 10] 3 (by kernel_rfl) (fun d _ _ _ _ h => by cases d <;> exact h) (by kernel_rfl) (by kernel_rfl) (by kernel_rfl) HS.out ?_; simp only [pickL, List.map_cons, List.map_nil, List.getD_cons_succ, List.getD_cons_zero]
                      iterate 11 (go_big_quiet_step (fail))
                      refine wpQuiet_nil ?_; refine held_one 11 2 (by kernel_rfl) (by kernel_rfl) ?_; simp only [pickL, List.map_cons, List.map_nil, List.getD_cons_succ, List.getD_cons_zero]; clear q0 q1 e0 e1 e2
                      go_wp2_with fail
                      refine (HNN'.out _ HD.out).mono ?_; rintro e wz ⟨rfl, hbz⟩; have hbz := HD.out.trans (hbz.mono HD.out.size); have HS := Lib.hid (hsurj4'.out _ hbz); have bDz := bDE'.out.late hbz; have e0 : wz.cell? ⟨w.heap.size, 0, none⟩ = some (.slice av tags.length cv) := bDz.cell rfl; have e1 : wz.cell? ⟨w.heap.size, 1, none⟩ = some (.slice as_ subs.length cs) := bDz.cell rfl; have e2 : wz.cell? ⟨w.heap.size, 2, none⟩ = some (.slice a9 YN c9) := bDz.cell rfl; have y0 := bDz.frozen 0; have y1 := bDz.frozen 1; have y2 := bDz.frozen 2; have bDz' := Lib.hid bDz; have hbz' := Lib.hid hbz; clear bDz hbz
                      go_wp2_with fail
                      first | refine Mid.mk ⟨HS.out, ?_⟩ | refine Mid.mk ?_
                      refine held_one 12 1 (by kernel_rfl) (by kernel_rfl) ?_; simp only [pickL, List.map_cons, List.map_nil, List.getD_cons_succ, List.getD_cons_zero]
                      go_wp2_with fail
                      first | rw [bDz'.out.set3_same] | skip
                      first | refine Mid.mk ⟨HS.out, ?_⟩ | refine Mid.mk ?_
                      refine held_take [13] 0 (by kernel_rfl) (fun d _ _ _ _ h => by cases d <;> exact h) (by kernel_rfl) (by kernel_rfl) (by kernel_rfl) HS.out ?_; simp only [pickL, List.map_cons, List.map_nil, List.getD_cons_succ, List.getD_cons_zero]
                      iterate 1 (go_big_quiet_step (fail))
                      refine wpQuiet_nil ?_; refine held_last (by kernel_rfl) ?_
                      go_wp2_with fail
                      refine bodyPost_ret (results_blk_tmp rfl _ _ w.heap.size 42 #[.slice av tags.length cv, .slice as_ subs.length cs, .slice a9 YN c9] _ rfl bDz'.out Tryz.underlying42 rfl (by kernel_rfl)) rfl ?_; have hkz := fun B => Kp.later (X := Xv sv8) (B := B) hbz'.out; exact ⟨sv8, tk8, hokE'.out.later hbz'.out, hpkE'.out.mv.later hbz'.out, (.slice av tags.length cv, .slice as_ subs.length cs, .slice a9 YN c9), rfl, dir_at (hpkE'.out.tg.keep (hkz _)) (hsuE'.out.keep (hkz _)) (hckE'.out.keep (hkz _)) hA2 hA3⟩
                  · have dy : decide (0 < Y4) = false := by simp; omega
                    obtain rfl : R = .error 6 := by rw [← hR6'.out, hbs'.out, if_neg hy0]
                    clear hy0 hbs'; have hpk5' := Lib.hid hpk5; clear hpk5
                    go_wp2_with (go_at_call 122; refine (must_any _ _ _).mono ?_; rintro e w3 ⟨rfl, rfl⟩; simp only [mustE_t, mustE_f])
                    exact ⟨rfl, rfl, svi, hpk5'.out.mv⟩
                -- }DEV
              · skip
                -- DEV{NOPAIR
                have d5 : ((np : Int) == 2) = false := by simp; omega
                have hbs := blobS_not (z := K.z) (no := s.no) (s := si) (show (pairE shp es).length ≠ 2 by rw [hnp'.out]; exact hp2); have hR8 := hR6'.out; rw [hbs] at hR8; simp only at hR8; obtain rfl : R = .ok (((tags, subs, []), nxv), si) := hR8.symm; have hckE : Ck (Xv svi) w.heap.size wr (.slice none 0 0) 5 1 ([] : List Int).length (ints .u8 []) := ⟨own_nil _ _ _ _, fun k e => by cases e⟩; have hA3 : w.heap.size ≤ w.heap.size := Nat.le_refl _; have hpkE' := hpki; have hsuE' := hsu; clear hpki hsu
                generalize wr = wE at *
                clear hbs hR8 hR6' hp1 hp2; have hckE' := Lib.hid hckE; clear hckE
                go_upto_region 26 with fail
                have hokE := hpkE'.out.ok; have HNN := fun W (h : Below wE.heap.size wE W) => HN'.out W ((hokE.byts t'.out).mono h); have bDE := hpkE'.out.bD; obtain ⟨Ty4, f4, hne4, hbel4, hsurj4⟩ := later_worlds wE; have q0 : ∀ s, (f4 s).cell? ⟨K.g, 0, none⟩ = some (.slice K.a K.n K.c) := fun s => (Blk.late hokE.blk (hbel4 s)).cell rfl; have q1 : ∀ s, (f4 s).cell? ⟨K.g, 1, none⟩ = some (.int .i64 K.o) := fun s => (Blk.late hokE.blk (hbel4 s)).cell rfl; have e0 : ∀ s, (f4 s).cell? ⟨w.heap.size, 0, none⟩ = some (.slice av tags.length cv) := fun s => (Blk.late bDE (hbel4 s)).cell rfl; have e1 : ∀ s, (f4 s).cell? ⟨w.heap.size, 1, none⟩ = some (.slice as_ subs.length cs) := fun s => (Blk.late bDE (hbel4 s)).cell rfl; have e2 : ∀ s, (f4 s).cell? ⟨w.heap.size, 2, none⟩ = some (.slice none 0 0) := fun s => (Blk.late bDE (hbel4 s)).cell rfl; have HS := Lib.hid (hsurj4 _ ((Below.refl _ _).drew)); have HD := Lib.hid ((Below.refl wE.heap.size wE).drew); have hokE' := Lib.hid hokE; have HNN' := Lib.hid HNN; have bDE' := Lib.hid bDE; have hbel4' := Lib.hid hbel4; have hsurj4' := Lib.hid hsurj4; clear hokE HNN bDE hbel4 hsurj4
                go_wp2_with fail
                refine held_begin (S := fun W => ∃ s, W = f4 s) (by kernel_rfl) 14 rfl ?_; refine held_take [0, 1, 2, 3, 4, 5, 6, 7, 8, 9, 10] 3 (by kernel_rfl) (fun d _ _ _ _ h => by cases d <;> exact h) (by kernel_rfl) (by kernel_rfl) (by kernel_rfl) HS.out ?_; simp only [pickL, List.map_cons, List.map_nil, List.getD_cons_succ, List.getD_cons_zero]
                iterate 11 (go_big_quiet_step (fail))
                refine wpQuiet_nil ?_; refine held_one 11 2 (by kernel_rfl) (by kernel_rfl) ?_; simp only [pickL, List.map_cons, List.map_nil, List.getD_cons_succ, List.getD_cons_zero]; clear q0 q1 e0 e1 e2
                go_wp2_with fail
                refine (HNN'.out _ HD.out).mono ?_; rintro e wz ⟨rfl, hbz⟩; have hbz := HD.out.trans (hbz.mono HD.out.size); have HS := Lib.hid (hsurj4'.out _ hbz); have bDz := bDE'.out.late hbz; have e0 : wz.cell? ⟨w.heap.size, 0, none⟩ = some (.slice av tags.length cv) := bDz.cell rfl; have e1 : wz.cell? ⟨w.heap.size, 1, none⟩ = some (.slice as_ subs.length cs) := bDz.cell rfl; have e2 : wz.cell? ⟨w.heap.size, 2, none⟩ = some (.slice none 0 0) := bDz.cell rfl; have y0 := bDz.frozen 0; have y1 := bDz.frozen 1; have y2 := bDz.frozen 2; have bDz' := Lib.hid bDz; have hbz' := Lib.hid hbz; clear bDz hbz
                go_wp2_with fail
                first | refine Mid.mk ⟨HS.out, ?_⟩ | refine Mid.mk ?_
                refine held_one 12 1 (by kernel_rfl) (by kernel_rfl) ?_; simp only [pickL, List.map_cons, List.map_nil, List.getD_cons_succ, List.getD_cons_zero]
                go_wp2_with fail
                first | rw [bDz'.out.set3_same] | skip
                first | refine Mid.mk ⟨HS.out, ?_⟩ | refine Mid.mk ?_
                refine held_take [13] 0 (by kernel_rfl) (fun d _ _ _ _ h => by cases d <;> exact h) (by kernel_rfl) (by kernel_rfl) (by kernel_rfl) HS.out ?_; simp only [pickL, List.map_cons, List.map_nil, List.getD_cons_succ, List.getD_cons_zero]
                iterate 1 (go_big_quiet_step (fail))
                refine wpQuiet_nil ?_; refine held_last (by kernel_rfl) ?_
                go_wp2_with fail
                refine bodyPost_ret (results_blk_tmp rfl _ _ w.heap.size 42 #[.slice av tags.length cv, .slice as_ subs.length cs, .slice none 0 0] _ rfl bDz'.out Tryz.underlying42 rfl (by kernel_rfl)) rfl ?_; have hkz := fun B => Kp.later (X := Xv svi) (B := B) hbz'.out; exact ⟨svi, tki, hokE'.out.later hbz'.out, hpkE'.out.mv.later hbz'.out, (.slice av tags.length cv, .slice as_ subs.length cs, .slice none 0 0), rfl, dir_at (hpkE'.out.tg.keep (hkz _)) (hsuE'.out.keep (hkz _)) (hckE'.out.keep (hkz _)) hA2 hA3⟩
                -- }DEV
theorem dir_any (K : WkS) (t : WkT K) (ho : K.o = 1 ∨ K.o = 2) (hval : shapesB (shps K.zs) = true) (f : Nat) : ∀ (p : Int) (sh : Nat) (s : St) (sv : Value) (tk : List Nat) (w : World), WkOk K s sv tk w → Inv K.n s → 0 ≤ p → p ≤ 4294967295 → sh < K.sn → K.sn ≤ sh + f →
    Calls Tryz.prog 124 #[.pointer (some ⟨K.g, 0, none⟩), .int .i64 p, .int .i64 sh] w (WPost K sv w (dirS K.z K.o (shps K.zs) f p sh s) (DirIs f w)) := by
  induction f with
  | zero =>
    intro p sh s sv tk w hok hinv h0 h1 h2 h3
    omega
  | succ f ih => exact dir_step K t ho hval f ih
end Go.Proofs.YtilennmeiaehnaaGreat
