/- Chapter 12: the chapter's examples: the program. | Chapter 12: the law ScanOrder. -/
import Derived.Test.YtpjopeojeglogaaCs32
import Derived.Test.YtpjopeojeglogaaCs05
import Derived.Test.YtpjopeojeglogaaCs08
import Derived.Test.YtpjopeojeglogaaCs18
import Derived.Test.YtpjopeojeglogaaCs29
namespace Go.Proofs.Ytpjopeojeglogaa
open Go.RowKit Tt
set_option linter.unusedVariables false
set_option linter.unusedSimpArgs false

theorem zB_ok : zB.length = 64 ∧ ∀ y ∈ zB, (Lit.int .i64 y).wf = true := ⟨rfl, fun y hy => by rw [List.eq_of_mem_replicate hy]; rfl⟩
theorem bps_one {w : World} {g g2 n : Nat} {bl : List (List Int)} (h1 : Blk w g 129 (flatB bl).toArray) (hbl : ∀ b ∈ bl, b.length = 64 ∧ ∀ y ∈ b, (Lit.int .i64 y).wf = true) (hn : bl.length = n) (hn2 : n ≤ maxLen) (h2 : Blk w g2 126 #[.slice (some ⟨g, 0, none⟩) n n]) :
    BpsR w (some ⟨g2, 0, none⟩) 1 1 [(bl, some ⟨g, 0, none⟩, n, n)] :=
  ⟨blk_slS (n := 1) (sz := 1) h2 rfl (by decide), fun b hb => by
    rw [List.mem_singleton.1 hb]; have := blk_slS (n := n) (sz := 64) h1 (by rw [← hn]; exact flatB_len fun b hb => (hbl b hb).1) hn2; exact ⟨by simpa [flatB] using this, fun b hb => (hbl b hb).1, fun b hb => (hbl b hb).2⟩⟩
theorem wf1 : Wf 1 := by unfold Wf; omega
theorem wf0 : Wf 0 := by unfold Wf; omega
theorem wf_oneP {x : Int} {s1 s2 : Nat} (hx : Wf x) : ∀ p ∈ [onePt x s1 s2], Wf p.1 ∧ Wf p.2.1 := fun p hp => by rw [List.mem_singleton.1 hp]; exact ⟨hx, wf1⟩
/-- the first example's blocks written -/
theorem ex_write {w : World} {pb s1 s2 : Nat} {ba : Option Addr} {bn bc : Nat} (a iv : Int) (bs : List BpM) (out : List Int) (hb : Blk w pb 47 (pC (onePt 1 s1 s2)).toArray) (ho : OneP w s1 s2) (hbs : BpsR w ba bn bc bs) (hbn : bn ≤ 10) (hbl : ∀ b ∈ bs, b.2.2.1 ≤ 10) (ha : Wf a) (hiv : Wf iv) (hs : (a * 1).toNat ≤ 26)
    (hw : writeS ⟨a, 1, iv, [onePt 1 s1 s2]⟩ (bs.map (·.1)) = .ok out) :
    Calls Try.prog 20 #[.agg #[.int .i64 a, .int .i64 1, .slice (some ⟨pb, 0, none⟩) 1 1, .int .i64 iv], .slice ba bn bc] w fun e w' => (∃ a n c, e = .returned (.tuple #[.slice a n c, .int .i64 0]) ∧ Sl w' a n c 1 (ints .u8 out)) ∧ Below w.heap.size w w' := by
  refine (write_any ⟨a, 1, iv, [onePt 1 s1 s2]⟩ bs (some ⟨pb, 0, none⟩) ba 1 1 bn bc w (one_pts ho hb) hbs (by omega) (fun b h => by have := hbl b h; omega) ha wf1 hiv (wf_oneP wf1) (fun _ => hs)).mono ?_; rintro e w' ⟨⟨o, a, n, c, h1, h2, h3⟩ | ⟨er, h1, _⟩, hb⟩
  · rw [hw] at h1
    injection h1 with h1; rw [h1]; exact ⟨⟨a, n, c, h2, h3⟩, hb⟩
  · rw [hw] at h1; cases h1
theorem ex_read {w : World} {pb : Nat} (s1 s2 : Nat) {ba : Option Addr} {bn bc : Nat} (bb : List Int) (hb : Blk w pb 47 (pC (onePt 1 s1 s2)).toArray) (ho : OneP w s1 s2) (hs : Sl w ba bn bc 1 (ints .u8 bb)) (hbb : Byt bb) (hbn : bn ≤ 10) (hba : ∀ x, ba = some x → x.block < w.heap.size) :
    Calls Try.prog 29 #[.agg #[.int .i64 1, .int .i64 1, .slice (some ⟨pb, 0, none⟩) 1 1, .int .i64 0], .slice ba bn bc] w fun e w' =>
      ((∃ n : Nat, readS ⟨1, 1, 0, [onePt 1 s1 s2]⟩ bb = .error n ∧ e = .returned (.tuple #[.slice none 0 0, .int .i64 n, .int .i64 2])) ∨ ∃ bl a n c bs, readS ⟨1, 1, 0, [onePt 1 s1 s2]⟩ bb = .ok bl ∧ e = .returned (.tuple #[.slice a n c, .int .i64 0, .int .i64 0]) ∧ BpsR w' a n c bs ∧ bs.map (·.1) = bl) ∧ Below w.heap.size w w' := by
  refine (read_any ⟨1, 1, 0, [onePt 1 s1 s2]⟩ (some ⟨pb, 0, none⟩) ba 1 1 bn bc bb w (one_pts ho hb) hs hbb (by omega) hba wf1 wf1 wf0 (wf_oneP wf1)).mono ?_; rintro e w' ⟨h | ⟨_, h⟩, hb⟩
  · rw [ex_m1] at h; cases h.1
  · exact ⟨h, hb⟩
theorem two_ok {w : World} {s1 s2 : Nat} (h : OneP w s1 s2) {a : Option Addr} {c : Nat} (hs : Sl w a 2 c 36 (pC (onePt 2 s1 s2) ++ pC (onePt 1 s1 s2))) : PtsR w a 2 c [onePt 2 s1 s2, onePt 1 s1 s2] :=
  ⟨by simpa using hs, fun p hp => by
    rcases List.mem_cons.1 hp with rfl | hp
    · exact h.ok 2
    · rw [List.mem_singleton.1 hp]; exact h.ok 1⟩
theorem infoPt2 : (Try.prog.info? 47).map (fun i => (i.size, i.bytes)) = some (36, 320) := by kernel_rfl
theorem infoPt3 : (Try.prog.info? 47).map (fun i => i.zero.map (fun z => z.cells.size)) = some (some 36) := by kernel_rfl
theorem zB1 : ∀ b ∈ [zB], b.length = 64 ∧ ∀ y ∈ b, (Lit.int .i64 y).wf = true := fun b hb => by rw [List.mem_singleton.1 hb]; exact zB_ok
theorem zB2 : ∀ b ∈ [zB, zB], b.length = 64 ∧ ∀ y ∈ b, (Lit.int .i64 y).wf = true := fun b hb => by
  rcases List.mem_cons.1 hb with rfl | hb
  · exact zB_ok
  · rw [List.mem_singleton.1 hb]; exact zB_ok
def AwR12 (w : World) (e : Ending) (w' : World) : Prop := e = .returned (.bool true) ∧ Below w.heap.size w w'
set_option maxRecDepth 100000 in
set_option maxHeartbeats 8000000 in
theorem awake12_any (w : World) : Calls Try.prog 18 #[] w (AwR12 w) := by
  obtain ⟨iP, zq, hiP, hzq, hzP1, hzP2, hzq2⟩ := info_ofz infoPt2 infoPt3; have H1 := one_any 2 0 w; have H1' := Lib.hid H1; clear H1
  go_enter Try.func18, Try.ntmps18
  go_wp2_with fail
  refine H1'.out.mono ?_; rintro e w1 ⟨pb, s1, s2, rfl, hpb, hop, hlow, hb1⟩; have l2 := (Below.refl w1.heap.size w1).alloc (Nat.le_refl _) (.cells #[.int .i64 2, .int .i64 1, .slice (some ⟨pb, 0, none⟩) 1 1, .int .i64 0] 24); have bT2 := Blk.new w1 24 #[.int .i64 2, .int .i64 1, .slice (some ⟨pb, 0, none⟩) 1 1, .int .i64 0]; obtain ⟨w2, hw2⟩ : ∃ W, w1.alloc (.cells #[.int .i64 2, .int .i64 1, .slice (some ⟨pb, 0, none⟩) 1 1, .int .i64 0] 24) = W := ⟨_, rfl⟩; rw [hw2] at l2 bT2; obtain ⟨gt, hgt⟩ : ∃ g, w1.heap.size = g := ⟨_, rfl⟩; rw [hgt] at bT2; have hD := (Below.refl w2.heap.size w2).drew; obtain ⟨wD, hwD⟩ : ∃ W, w2.drew = W := ⟨_, rfl⟩; rw [hwD] at hD; have lD := l2.trans (hD.mono l2.size); have hbD := hb1.trans (lD.mono hb1.size); have bTD := bT2.late hD; have hpD := hpb.late lD; have hoD := hop.late lD; obtain ⟨B, hB⟩ : ∃ B, (pC (onePt 1 s1 s2)).toArray = B := ⟨_, rfl⟩; have hcl : (pC (onePt 1 s1 s2)).length = 36 := rfl; have hB36 : B.size = 36 := by rw [← hB]; rfl
  have hBl : B.toList = pC (onePt 1 s1 s2) := by rw [← hB]
  rw [hB] at hpD; obtain ⟨Ty, ff, hnn, hpr, hsurj⟩ := pr_worlds (fun W => Blk W gt 24 #[.int .i64 2, .int .i64 1, .slice (some ⟨pb, 0, none⟩) 1 1, .int .i64 0] ∧ Blk W pb 47 B) wD ⟨bTD, hpD⟩; have HS := Lib.hid (hsurj wD ⟨bTD, hpD⟩); have y0 : ∀ s, (ff s).cell? ⟨gt, 2, none⟩ = some (.slice (some ⟨pb, 0, none⟩) 1 1) := fun s => (hpr s).1.cell rfl
  have y1 : ∀ W, (∃ u, W = ff u) → ∀ j v, (pC (onePt 1 s1 s2))[j]? = some v → W.cell? ⟨pb, 0 + j, none⟩ = some v := fun W hW j v hv => by
    obtain ⟨u, rfl⟩ := hW; exact (hpr u).2.cell (by rw [Nat.zero_add, ← hB, List.getElem?_toArray]; exact hv)
  have l4 := (Below.refl wD.heap.size wD).alloc (Nat.le_refl _) (.cells B 47); have s4 := Sl.new wD 47 36 1 B (0, 0) (by decide) (by omega); have bT4 := bTD.late l4; have hp4 := hpD.late l4; have ho4 := hoD.late l4; have HS4 := Lib.hid (hsurj _ ⟨bT4, hp4⟩); have hb4 := hbD.trans (l4.mono hbD.size); obtain ⟨w4, hw4⟩ : ∃ W, wD.alloc (.cells B 47) = W := ⟨_, rfl⟩; rw [hw4] at s4 bT4 hp4 ho4 HS4 hb4; have sp4 := blk_slS (n := 1) (sz := 36) hp4 (by rw [hBl]; rfl) (by decide); obtain ⟨g4, hg4⟩ : ∃ g, wD.heap.size = g := ⟨_, rfl⟩; rw [hg4] at s4; rw [hBl] at s4 sp4; have hgtw : w.heap.size ≤ gt := by rw [← hgt]; exact hb1.size
  clear l2 bT2 hpb hop hlow hb1 hD lD hbD bTD hpD hoD hpr l4; have hw2' := Lib.hid hw2; have hgt' := Lib.hid hgt; have hwD' := Lib.hid hwD; have hB' := Lib.hid hB; have hcl' := Lib.hid hcl; have hB36' := Lib.hid hB36; have hsurj' := Lib.hid hsurj; have y1' := Lib.hid y1; have s4' := Lib.hid s4; have bT4' := Lib.hid bT4; have ho4' := Lib.hid ho4; have hb4' := Lib.hid hb4; have hw4' := Lib.hid hw4; have sp4' := Lib.hid sp4; have hg4' := Lib.hid hg4; have hgtw' := Lib.hid hgtw; have hp4' := Lib.hid hp4; have hBl' := Lib.hid hBl; clear hw2 hgt hwD hB hcl hB36 hsurj y1 s4 bT4 ho4 hb4 hw4 sp4 hg4 hgtw hp4 hBl
  go_upto_region 2 with fail
  rw [hw2'.out, hgt'.out]; refine wp_noP ?_; refine till_begin (t := 9) (C := fun W => ∃ s, W = ff s) (by kernel_rfl) 10 rfl ?_; rw [hwD'.out]; refine till_take [0, 1, 2, 3, 4, 5] 4 (by kernel_rfl) noP_put (by kernel_rfl) (by kernel_rfl) (by kernel_rfl) HS.out ?_; simp only [pickL, List.map_cons, List.map_nil, List.getD_cons_succ, List.getD_cons_zero]
  iterate 5 (go_big_quiet_step (fail))
  refine wpQuiet_load_at rfl 47 (.tmp 20) rfl pb 0 rfl (pC (onePt 1 s1 s2)) B hB'.out _ y1'.out Try.underlying47 rfl 36 infoP hcl'.out ?_; simp only [Act.put, List.setIfInBounds_toArray, List.set_cons_succ, List.set_cons_zero]; refine wpQuiet_nil ?_; clear y0; refine till_one 6 3 (by kernel_rfl) (by kernel_rfl) ?_; simp only [pickL, List.map_cons, List.map_nil, List.getD_cons_succ, List.getD_cons_zero]
  go_wp2_with (refine wpList_buildOne rfl 22 47 (.tmp 21) rfl B rfl iP zq 36 Try.underlying22 hiP hzq hzP1 (by decide) (by decide) hB36'.out ?_; rw [hw4'.out, hg4'.out])
  refine Mid.mk ⟨fun _ => HS4.out, ?_⟩; refine till_one 7 2 (by kernel_rfl) (by kernel_rfl) ?_; simp only [pickL, List.map_cons, List.map_nil, List.getD_cons_succ, List.getD_cons_zero]
  go_wp2_with (at_builtin; refine wpList_app_full rfl _ _ 22 rfl 47 iP zq 36 320 Try.underlying22 hiP hzq hzP1 hzP2 hzq2 (by decide) (some ⟨pb, 0, none⟩) 1 (pC (onePt 1 s1 s2)) rfl sp4'.out ⟨g4, 0, none⟩ 1 1 (pC (onePt 1 s1 s2)) rfl s4'.out (by decide) (fun u hu => (Array.all_eq_true_iff_forall_mem.1 (pC_one (p := onePt 1 s1 s2))) u (by simpa using hu)) (by omega) (by decide) ?_; intro a5 c5 w5 ho5 hg5; have Ho5 := Lib.hid ho5; have Hg5 := Lib.hid hg5; clear ho5 hg5)
  have lb5 : Below w4.heap.size w4 w5 := ⟨Hg5.out.os, Hg5.out.tape, Hg5.out.output, Hg5.out.size, fun k hk => Hg5.out.block k hk (by simp)⟩; have hb5 := hb4'.out.trans (lb5.mono hb4'.out.size); have bT5 := bT4'.out.late lb5; have hp5 := hp4'.out.late lb5; have ho5 := ho4'.out.late lb5; have HS5 := Lib.hid (hsurj'.out _ ⟨bT5, hp5⟩); obtain ⟨g5, rfl, hg5B, hg5l, hg5f, hg5c⟩ := own_at Ho5.out (i := 0) (by omega); have k2 : w5.cell? ⟨gt, 2, none⟩ = some (.slice (some ⟨pb, 0, none⟩) 1 1) := bT5.cell rfl; have kf := bT5.frozen 2; have hgt5 : gt < w4.heap.size := bT4'.out.lt; clear lb5 hp5; have hb5' := Lib.hid hb5; have bT5' := Lib.hid bT5; have ho5' := Lib.hid ho5; have hg5B' := Lib.hid hg5B; have hg5l' := Lib.hid hg5l; have hg5f' := Lib.hid hg5f; have hg5c' := Lib.hid hg5c; have hgt5' := Lib.hid hgt5; clear hb5 bT5 ho5 hg5B hg5l hg5f hg5c hgt5; refine Mid.mk ⟨fun _ => HS5.out, ?_⟩; refine till_one 8 1 (by kernel_rfl) (by kernel_rfl) ?_; simp only [pickL, List.map_cons, List.map_nil, List.getD_cons_succ, List.getD_cons_zero]
  go_wp2_with fail
  refine Mid.mk ⟨fun _ => HS5.out, ?_⟩; refine till_one 9 0 (by kernel_rfl) (by kernel_rfl) ?_; simp only [pickL, List.map_cons, List.map_nil, List.getD_cons_succ, List.getD_cons_zero]
  go_wp2_with fail
  refine ⟨fun h => Bool.noConfusion (show true = false from h), ⟨by kernel_rfl, noP_normal ?_⟩⟩; clear HS HS4 HS5 k2 kf; have hbt6 := (But.refl gt w5).set 2 (.slice (some ⟨g5, 0, none⟩) 2 c5); have bT6 : Blk (w5.setCell ⟨gt, 2, none⟩ (.slice (some ⟨g5, 0, none⟩) 2 c5)) gt 24 #[.int .i64 2, .int .i64 1, .slice (some ⟨g5, 0, none⟩) 2 c5, .int .i64 0] := bT5'.out.set 2 _; have ow6 := own_but Ho5.out hbt6 (own_neB Ho5.out bT5'.out (by decide)); have op6 : OneP (w5.setCell ⟨gt, 2, none⟩ (.slice (some ⟨g5, 0, none⟩) 2 c5)) s1 s2 := ⟨ho5'.out.b1.but hbt6 (blk_neT ho5'.out.b1 bT5'.out (by decide)), ho5'.out.b2.but hbt6 (blk_neT ho5'.out.b2 bT5'.out (by decide))⟩; have hb6 := hb5'.out.trans (hbt6.below hgtw'.out hb5'.out.size); obtain ⟨w6, hw6⟩ : ∃ W, w5.setCell ⟨gt, 2, none⟩ (.slice (some ⟨g5, 0, none⟩) 2 c5) = W := ⟨_, rfl⟩; rw [hw6] at bT6 ow6 op6 hb6 ⊢; clear hbt6 hw6; have k2 : w6.cell? ⟨gt, 2, none⟩ = some (.slice (some ⟨g5, 0, none⟩) 2 c5) := bT6.cell rfl; have hxs : (pC (onePt 1 s1 s2) ++ pC (onePt 1 s1 s2)).set 0 (.int .i64 2) = pC (onePt 2 s1 s2) ++ pC (onePt 1 s1 s2) := rfl; have ow7 := own_put ow6 0 (.int .i64 2); rw [hxs] at ow7; obtain ⟨g5', e5', _, _, ff5, fc5⟩ := own_at ow6 (i := 0) (by omega); injection e5' with e5'; injection e5' with e5' _ _; subst e5'; have k5 : w6.cell? ⟨g5, 0, none⟩ = some (.int .i64 1) := fc5 0 _ rfl; have kf := ff5 0; have hbt7 := (But.refl g5 w6).set 0 (.int .i64 2); have hg5w : w.heap.size ≤ g5 := Nat.le_trans hb4'.out.size hg5B'.out; have bT7 := bT6.but hbt7 (fun e => own_neB ow6 bT6 (by decide) (by rw [← e]; rfl)); have op7 : OneP (w6.setCell ⟨g5, 0, none⟩ (.int .i64 2)) s1 s2 := ⟨op6.b1.but hbt7 (fun e => own_neB ow6 op6.b1 (by decide) (by rw [← e]; rfl)), op6.b2.but hbt7 (fun e => own_neB ow6 op6.b2 (by decide) (by rw [← e]; rfl))⟩; have hb7 := hb6.trans (hbt7.below hg5w hb6.size); clear hbt7 ow6 op6 bT6 ff5 fc5 hxs; have bT7' := Lib.hid bT7; have op7' := Lib.hid op7; have hb7' := Lib.hid hb7; have ow7' := Lib.hid ow7; have hb6' := Lib.hid hb6; clear bT7 op7 hb7 ow7 hb6
  go_upto_region 4 with fail
  obtain ⟨w7, hw7⟩ : ∃ W, w6.setCell ⟨g5, 0, none⟩ (.int .i64 2) = W := ⟨_, rfl⟩; rw [hw7] at bT7' op7' hb7' ow7' ⊢; clear hw7 k2 k5 kf hb4' hw4' hp4' s4' sp4' bT4' ho4' hb5' bT5' ho5' hg5B' hg5l' hg5f' hg5c' hgt5' Ho5 Hg5 hb6' hsurj' y1' hwD' hw2'; have hP7 := two_ok op7'.out (Sl.of_own ow7'.out).1; clear op7' ow7'; have hP7' := Lib.hid hP7; clear hP7; have HO := one_any 1 0 w7; have HO' := Lib.hid HO; clear HO
  go_wp2_with fail
  refine HO'.out.mono ?_; rintro e w8 ⟨pb8, t1, t2, rfl, hpb8, hop8, hlow8, hb8⟩; have z9 : (w8.alloc (.cells (flatB [zB]).toArray 129)).heap.size = w8.heap.size + 1 := Array.size_push _; have l9 := (Below.refl w8.heap.size w8).alloc (Nat.le_refl _) (.cells (flatB [zB]).toArray 129); have c9 := Blk.new w8 129 (flatB [zB]).toArray; have l10 := (Below.refl (w8.alloc (.cells (flatB [zB]).toArray 129)).heap.size (w8.alloc (.cells (flatB [zB]).toArray 129))).alloc (Nat.le_refl _) (.cells #[.slice (some ⟨w8.heap.size, 0, none⟩) 1 1] 126); have c10 := Blk.new (w8.alloc (.cells (flatB [zB]).toArray 129)) 126 #[.slice (some ⟨w8.heap.size, 0, none⟩) 1 1]; rw [z9] at c10; have l8 := hb8.trans ((l9.trans (l10.mono l9.size)).mono hb8.size); have HW := ex_write 1 0 [([zB], some ⟨w8.heap.size, 0, none⟩, 1, 1)] [31] ((hpb8.late l9).late l10) ((hop8.late l9).late l10) (bps_one (c9.late l10) zB1 rfl (by decide) c10) (by decide) (fun b hb => by rw [List.mem_singleton.1 hb]; show 1 ≤ 10; decide) (by unfold Wf; omega) (by unfold Wf; omega) (by decide) (ex_w1 t1 t2); clear l9 c9 l10 c10 hpb8 hop8 hlow8 hb8 z9; have HW' := Lib.hid HW; have l8' := Lib.hid l8; clear HW l8
  go_wp2_with fail
  refine HW'.out.mono ?_; rintro e wa ⟨⟨awa, nwa, cwa, rfl, swa⟩, hb10⟩; have dwa : Below (w7).heap.size w7 wa := l8'.out.trans (hb10.mono l8'.out.size); clear hb10 HW' l8' HO'; have hPa := hP7'.out.mono dwa; have bTa := bT7'.out.late dwa; have hba := hb7'.out.trans (dwa.mono hb7'.out.size); clear hP7' bT7' hb7' dwa; have swa' := Lib.hid swa; have hPa' := Lib.hid hPa; have bTa' := Lib.hid bTa; have hba' := Lib.hid hba; clear swa hPa bTa hba; have HO := one_any 2 1 wa; have HO' := Lib.hid HO; clear HO
  go_wp2_with fail
  refine HO'.out.mono ?_; rintro e w8 ⟨pb8, t1, t2, rfl, hpb8, hop8, hlow8, hb8⟩; have z9 : (w8.alloc (.cells (flatB [zB, zB]).toArray 129)).heap.size = w8.heap.size + 1 := Array.size_push _; have l9 := (Below.refl w8.heap.size w8).alloc (Nat.le_refl _) (.cells (flatB [zB, zB]).toArray 129); have c9 := Blk.new w8 129 (flatB [zB, zB]).toArray; have l10 := (Below.refl (w8.alloc (.cells (flatB [zB, zB]).toArray 129)).heap.size (w8.alloc (.cells (flatB [zB, zB]).toArray 129))).alloc (Nat.le_refl _) (.cells #[.slice (some ⟨w8.heap.size, 0, none⟩) 2 2] 126); have c10 := Blk.new (w8.alloc (.cells (flatB [zB, zB]).toArray 129)) 126 #[.slice (some ⟨w8.heap.size, 0, none⟩) 2 2]; rw [z9] at c10; have l8 := hb8.trans ((l9.trans (l10.mono l9.size)).mono hb8.size); have HW := ex_write 2 1 [([zB, zB], some ⟨w8.heap.size, 0, none⟩, 2, 2)] [31, 255, 208, 31] ((hpb8.late l9).late l10) ((hop8.late l9).late l10) (bps_one (c9.late l10) zB2 rfl (by decide) c10) (by decide) (fun b hb => by rw [List.mem_singleton.1 hb]; show 2 ≤ 10; decide) (by unfold Wf; omega) (by unfold Wf; omega) (by decide) (ex_w2 t1 t2); clear l9 c9 l10 c10 hpb8 hop8 hlow8 hb8 z9; have HW' := Lib.hid HW; have l8' := Lib.hid l8; clear HW l8
  go_wp2_with fail
  refine HW'.out.mono ?_; rintro e wb ⟨⟨awb, nwb, cwb, rfl, swb⟩, hb10⟩; have dwb : Below (wa).heap.size wa wb := l8'.out.trans (hb10.mono l8'.out.size); clear hb10 HW' l8' HO'; have hPb := hPa'.out.mono dwb; have bTb := bTa'.out.late dwb; have hbb := hba'.out.trans (dwb.mono hba'.out.size); have sab := swa'.out.mono dwb; clear hPa' bTa' hba' swa' dwb; have swb' := Lib.hid swb; have hPb' := Lib.hid hPb; have bTb' := Lib.hid bTb; have hbb' := Lib.hid hbb; have sab' := Lib.hid sab; clear swb hPb bTb hbb sab; have HO := one_any 1 0 wb; have HO' := Lib.hid HO; clear HO
  go_wp2_with fail
  refine HO'.out.mono ?_; rintro e w8 ⟨pb8, t1, t2, rfl, hpb8, hop8, hlow8, hb8⟩; have l9 := (Below.refl w8.heap.size w8).alloc (Nat.le_refl _) (.cells #[.int .u8 31] 5); have s9 := Sl.new w8 5 1 1 #[.int .u8 31] (0, 0) (by decide) rfl; have z9 : (w8.alloc (.cells #[.int .u8 31] 5)).heap.size = w8.heap.size + 1 := Array.size_push _; have l8 := hb8.trans (l9.mono hb8.size); have HW := ex_read (t1) (t2) [31] (hpb8.late l9) (hop8.late l9) s9 (fun x hx => by rw [List.mem_singleton.1 hx]; omega) (by decide) (fun x hx => by injection hx with hx; rw [← hx, z9]; exact Nat.lt_succ_self _); clear l9 s9 hpb8 hop8 hlow8 hb8 z9; have HW' := Lib.hid HW; have l8' := Lib.hid l8; clear HW l8
  go_wp2_with fail
  refine HW'.out.mono ?_; rintro e wc ⟨hres, hb10⟩; have dwc : Below (wb).heap.size wb wc := l8'.out.trans (hb10.mono l8'.out.size); clear hb10 HW' l8' HO'; have hPc := hPb'.out.mono dwc; have bTc := bTb'.out.late dwc; have hbc := hbb'.out.trans (dwc.mono hbb'.out.size); have sac := sab'.out.mono dwc; have sbc := swb'.out.mono dwc
  rcases hres with ⟨n, h1, _⟩ | ⟨bl, ac, nc, cc, bsc, h1, rfl, hRc, hmc⟩
  · rw [ex_r1] at h1; cases h1
  rw [ex_r1] at h1; injection h1 with h1; rw [← h1] at hmc; clear hPb' bTb' hbb' sab' swb' dwc h1; have hPc' := Lib.hid hPc; have bTc' := Lib.hid bTc; have hbc' := Lib.hid hbc; have sac' := Lib.hid sac; have sbc' := Lib.hid sbc; have hRc' := Lib.hid hRc; have hmc' := Lib.hid hmc; clear hPc bTc hbc sac sbc hRc hmc; have HO := one_any 1 0 wc; have HO' := Lib.hid HO; clear HO
  go_wp2_with fail
  refine HO'.out.mono ?_; rintro e w8 ⟨pb8, t1, t2, rfl, hpb8, hop8, hlow8, hb8⟩; have l9 := (Below.refl w8.heap.size w8).alloc (Nat.le_refl _) (.cells #[.int .u8 63] 5); have s9 := Sl.new w8 5 1 1 #[.int .u8 63] (0, 0) (by decide) rfl; have z9 : (w8.alloc (.cells #[.int .u8 63] 5)).heap.size = w8.heap.size + 1 := Array.size_push _; have l8 := hb8.trans (l9.mono hb8.size); have HW := ex_read (t1) (t2) [63] (hpb8.late l9) (hop8.late l9) s9 (fun x hx => by rw [List.mem_singleton.1 hx]; omega) (by decide) (fun x hx => by injection hx with hx; rw [← hx, z9]; exact Nat.lt_succ_self _); clear l9 s9 hpb8 hop8 hlow8 hb8 z9; have HW' := Lib.hid HW; have l8' := Lib.hid l8; clear HW l8
  go_wp2_with fail
  refine HW'.out.mono ?_; rintro e wd ⟨hres, hb10⟩; have dwd : Below (wc).heap.size wc wd := l8'.out.trans (hb10.mono l8'.out.size); clear hb10 HW' l8' HO'; have hPd := hPc'.out.mono dwd; have bTd := bTc'.out.late dwd; have hbd := hbc'.out.trans (dwd.mono hbc'.out.size); have sad := sac'.out.mono dwd; have sbd := sbc'.out.mono dwd; have hRd := hRc'.out.mono dwd
  rcases hres.symm with ⟨bl, ac2, nc2, cc2, bsc2, h1, _⟩ | ⟨n, h1, rfl⟩
  · rw [ex_r2] at h1; cases h1
  rw [ex_r2] at h1; injection h1 with h1; subst h1; clear hPc' bTc' hbc' sac' sbc' dwd hRc'; have hPd' := Lib.hid hPd; have bTd' := Lib.hid bTd; have hbd' := Lib.hid hbd; have sad' := Lib.hid sad; have sbd' := Lib.hid sbd; have hRd' := Lib.hid hRd; clear hPd bTd hbd sad sbd hRd; have HO := one_any 1 0 wd; have HO' := Lib.hid HO; clear HO
  go_wp2_with fail
  refine HO'.out.mono ?_; rintro e w8 ⟨pb8, t1, t2, rfl, hpb8, hop8, hlow8, hb8⟩; have HW := ex_read t1 t2 [] hpb8 hop8 (Sl.nil _ _) (fun x hx => by cases hx) (by decide) (fun x hx => by cases hx); clear hpb8 hop8 hlow8; have HW' := Lib.hid HW; have hb8' := Lib.hid hb8; clear HW hb8
  go_wp2_with fail
  refine HW'.out.mono ?_; rintro e we ⟨hres, hb10⟩; have dwe : Below wd.heap.size wd we := hb8'.out.trans (hb10.mono hb8'.out.size); have hPe := hPd'.out.mono dwe; have bTe := bTd'.out.late dwe; have hbe := hbd'.out.trans (dwe.mono hbd'.out.size); have sae := sad'.out.mono dwe; have sbe := sbd'.out.mono dwe; have hRe := hRd'.out.mono dwe
  rcases hres.symm with ⟨bl, ac2, nc2, cc2, bsc2, h1, _⟩ | ⟨n, h1, rfl⟩
  · rw [ex_r3] at h1; cases h1
  rw [ex_r3] at h1; injection h1 with h1; subst h1; clear hPd' bTd' hbd' sad' sbd' dwe hRd' hb10 HW' hb8' HO'
  have HOr := scorder_any ⟨2, 1, 0, [onePt 2 s1 s2, onePt 1 s1 s2]⟩ (some ⟨g5, 0, none⟩) 2 c5 we hPe (show Wf 2 by unfold Wf; omega) wf1 wf0 (fun p hp => by
    rcases List.mem_cons.1 hp with rfl | hp
    · exact ⟨show Wf 2 by unfold Wf; omega, wf1⟩
    · rw [List.mem_singleton.1 hp]; exact ⟨wf1, wf1⟩)
  rw [ex_m2, if_pos rfl, ex_o] at HOr; have k0 : we.cell? ⟨gt, 0, none⟩ = some (.int .i64 2) := bTe.cell rfl; have k1 : we.cell? ⟨gt, 1, none⟩ = some (.int .i64 1) := bTe.cell rfl; have k2 : we.cell? ⟨gt, 2, none⟩ = some (.slice (some ⟨g5, 0, none⟩) 2 c5) := bTe.cell rfl; have k3 : we.cell? ⟨gt, 3, none⟩ = some (.int .i64 0) := bTe.cell rfl; have hPe' := Lib.hid hPe; have bTe' := Lib.hid bTe; have hbe' := Lib.hid hbe; have sae' := Lib.hid sae; have sbe' := Lib.hid sbe; have hRe' := Lib.hid hRe; have HOr' := Lib.hid HOr; clear hPe bTe hbe sae sbe hRe HOr
  go_wp2_with fail
  refine HOr'.out.mono ?_; rintro e wf ⟨ao, no, co, rfl, hbf, hof⟩; clear k0 k1 k2 k3; have l9 := (Below.refl wf.heap.size wf).alloc (Nat.le_refl _) (.cells (ints .i64 [0, 0, 0, 1, 1, 0, 0, 2, 0, 3, 1, 1]).toArray 3); have s9 := Sl.new wf 3 1 12 (ints .i64 [0, 0, 0, 1, 1, 0, 0, 2, 0, 3, 1, 1]).toArray (0, 0) (by decide) rfl; have hno : 12 = no := (Sl.of_own hof).1.ilen; subst hno; have HR := lrow_eq ao (some ⟨wf.heap.size, 0, none⟩) 12 co 12 [0, 0, 0, 1, 1, 0, 0, 2, 0, 3, 1, 1] _ ((Sl.of_own hof).1.mono l9) s9; have lf := hbf.trans (l9.mono hbf.size); clear hbf hof l9 s9; have HR' := Lib.hid HR; have lf' := Lib.hid lf; clear HR lf
  go_wp2_with fail
  refine HR'.out.mono ?_; rintro e wg ⟨rfl, hbg⟩; have dwg := lf'.out.trans (hbg.mono lf'.out.size); have hbg2 := hbe'.out.trans (dwg.mono hbe'.out.size); have sag := sae'.out.mono dwg; have sbg := sbe'.out.mono dwg; have hRg := hRe'.out.mono dwg; have e1 := conv8 sag; have e2 := conv8 sbg; have e3 := str_list [31] [31] (by decide); have e4 := str_list [31, 255, 208, 31] [31, 255, 208, 31] (by decide); have l9 := (Below.refl wg.heap.size wg).alloc (Nat.le_refl _) (.cells (flatB [zB]).toArray 129); have z9 : (wg.alloc (.cells (flatB [zB]).toArray 129)).heap.size = wg.heap.size + 1 := Array.size_push _; have c9 := Blk.new wg 129 (flatB [zB]).toArray; have l10 := (Below.refl (wg.alloc (.cells (flatB [zB]).toArray 129)).heap.size (wg.alloc (.cells (flatB [zB]).toArray 129))).alloc (Nat.le_refl _) (.cells #[.slice (some ⟨wg.heap.size, 0, none⟩) 1 1] 126); have c10 := Blk.new (wg.alloc (.cells (flatB [zB]).toArray 129)) 126 #[.slice (some ⟨wg.heap.size, 0, none⟩) 1 1]; rw [z9] at c10; have l8 := l9.trans (l10.mono l9.size)
  have hnc : nc = 1 := by
    have h1 := hRg.ilen; have h2 := congrArg List.length hmc'.out; rw [List.length_map] at h2
    simp at h2
    omega
  subst hnc; have HS12 := rsame12_eq ac (some ⟨wg.heap.size + 1, 0, none⟩) 1 cc 1 bsc [([zB], some ⟨wg.heap.size, 0, none⟩, 1, 1)] _ (hRg.mono l8) (bps_one (c9.late l10) zB1 rfl (by decide) c10) hmc'.out (by decide); clear l9 c9 l10 c10 z9 sag sbg hRg dwg hbg lf' sae' sbe' hRe' hbe' HR' HOr'; have HS12' := Lib.hid HS12; have l8' := Lib.hid l8; have hbg2' := Lib.hid hbg2; clear HS12 l8 hbg2
  go_wp2_with fail
  refine HS12'.out.mono ?_; rintro e wh ⟨rfl, hbh⟩; have hfin := (hbg2'.out.trans (l8'.out.mono hbg2'.out.size)).trans (hbh.mono (Nat.le_trans hbg2'.out.size l8'.out.size)); clear e1 e2 e3 e4 hbh; have hfin' := Lib.hid hfin; clear hfin
  go_wp2
  go_ret
  exact ⟨rfl, hfin'.out⟩
end Go.Proofs.Ytpjopeojeglogaa

namespace Go.Proofs.Ytpjopeojeglogaa
open Go.RowKit Tt
set_option linter.unusedVariables false
set_option linter.unusedSimpArgs false

theorem infoRowI : (Try.prog.info? 35).map (fun i => (i.zero, i.size, i.bytes)) = some (some (.slice none 0 0), 1, 24) := by kernel_rfl
def LawR (w : World) (e : Ending) (w' : World) : Prop := e = .returned (.bool true) ∧ Below w.heap.size w w'
theorem LawR.mk {w w' : World} {e : Ending} (he : e = .returned (.bool true)) (hb : Below w.heap.size w w') : LawR w e w' := ⟨he, hb⟩
end Go.Proofs.Ytpjopeojeglogaa
