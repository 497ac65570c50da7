/- Chapter 11, the document's side: Block. -/
import Derived.Test.YtpjopeojeglogaaCr36
import Derived.Test.YtpjopeojeglogaaCr19
namespace Go.Proofs.Ytpjopeojeglogaa
open Go.RowKit Tt
set_option linter.unusedVariables false
set_option linter.unusedSimpArgs false

theorem cod_elem {w : World} {a : Option Addr} {n c : Nat} {l : List Cod} (hs : Sl w a n c 4 (codC l)) {j : Nat} {x : Cod} (hx : l[j]? = some x) :
    ∃ b o, a = some ⟨b, o, none⟩ ∧ b < w.heap.size ∧ w.cell? ⟨b, o + j * 4, none⟩ = some (.int .i64 x.1) ∧ w.cell? ⟨b, o + j * 4 + 1, none⟩ = some (.int .i64 x.2.1) ∧ w.cell? ⟨b, o + j * 4 + 2, none⟩ = some (.int .i64 x.2.2.1) ∧ w.cell? ⟨b, o + j * 4 + 3, none⟩ = some (.int .i64 x.2.2.2) := by
  have hl : l.length = n := by
    have h1 := hs.len; rw [codC_len] at h1; omega
  have hj : j < n := by rw [← hl]; exact (List.getElem?_eq_some_iff.1 hx).1
  obtain ⟨b, o, e, hb, _, hc⟩ := hs.elem hj; unfold codC at hc; rw [flat_elem (fun x : Cod => ints .i64 (cdL x)) 4 l (fun q hq => rfl) j x hx] at hc; exact ⟨b, o, e, hb, hc 0 _ rfl, hc 1 _ rfl, hc 2 _ rfl, hc 3 _ rfl⟩
theorem sixteen {x : Int} (h0 : 0 ≤ x) (h1 : x ≤ 255) : Int.tmod x 16 = x % 16 ∧ Int.tdiv x 16 = x / 16 ∧ 0 ≤ x % 16 ∧ x % 16 < 16 ∧ 0 ≤ x / 16 ∧ x / 16 ≤ 15 ∧ x = x / 16 * 16 + x % 16 :=
  ⟨Int.tmod_eq_emod_of_nonneg h0, Int.tdiv_eq_ediv_of_nonneg h0, by omega, by omega, by omega, by omega, by omega⟩
/-- the boxes of the answer and of the numbers so far -/
theorem dset {w wr : World} {t : List Int} (hd : Below w.heap.size w wr) (hz : B64 wr w.heap.size 129 (List.replicate 64 0)) (hq : B64 wr (w.heap.size + 1) 129 t) (m : Nat) (v : Int) :
    Below w.heap.size w (wr.setCell ⟨w.heap.size + 1, m, none⟩ (.int .i64 v)) ∧ B64 (wr.setCell ⟨w.heap.size + 1, m, none⟩ (.int .i64 v)) w.heap.size 129 (List.replicate 64 0) ∧ B64 (wr.setCell ⟨w.heap.size + 1, m, none⟩ (.int .i64 v)) (w.heap.size + 1) 129 (t.set m v) :=
  ⟨hd.setCell (Nat.le_succ _) _, hz.set_other (Nat.ne_of_lt (Nat.lt_succ_self _)) _ _, hq.set m v⟩
set_option maxRecDepth 100000 in
set_option maxHeartbeats 1500000 in
theorem rblock11_any (a : Option Addr) (n c : Nat) (l : List Cod) (last : Int) (w : World) (hs : Sl w a n c 4 (codC l)) (hl : l.length = n) (hwf : ∀ x ∈ l, ∀ y ∈ cdL x, Wf y) (hn : n ≤ 1000000) (hlast : 0 ≤ sizeS last) :
    Calls Try.prog 154 #[.slice a n c, .int .i64 last] w fun e w' => e = .returned (blkV (blockS l last)) ∧ Below w.heap.size w w' := by
  have hsl := size_ok (v := last) (by omega); obtain ⟨W1, hW1, bA, bB, hal, s1⟩ := two_boxes w 129 z64 129 z64; have hz1 : B64 W1 w.heap.size 129 (List.replicate 64 0) := ⟨List.length_replicate, bA⟩; have hq1 : B64 W1 (w.heap.size + 1) 129 (List.replicate 64 0) := ⟨List.length_replicate, bB⟩; have hdW1' := Lib.hid hal; have hzW1' := Lib.hid hz1; have hqW1' := Lib.hid hq1; unfold z64 at hW1; clear bA bB hal hz1 hq1 s1; have hs' := Lib.hid hs; have hl' := Lib.hid hl; have hwf' := Lib.hid hwf; have hn' := Lib.hid hn; have hW1' := Lib.hid hW1; have hlast' := Lib.hid hlast; have hsl' := Lib.hid hsl; clear hs hl hwf hn hW1 hlast hsl
  go_enter Try.func154, Try.ntmps154
  go_upto_region 2 with fail
  rw [hW1'.out]
  by_cases h0 : n = 0
  · subst h0
    have hres := blockS_nil (l := l) hlast'.out (by have := hl'.out; omega); have hres' := Lib.hid hres; clear hres; have hrz := rowBelow hdW1'.out (g := w.heap.size) (Nat.le_refl _) z64
    go_wp2_with (refine wpList_store_row rfl 129 (.tmp 4) (.tmp 16) rfl w.heap.size z64 rfl rfl 129 _ hzW1'.out.2 (by kernel_rfl) (by first | (rw [ints_size hzW1'.out.1]; rfl) | rfl) (by kernel_rfl) ?_)
    go_wp2
    refine bodyPost_ret (results_blk_tmp2 rfl _ _ w.heap.size 129 z64 _ rfl (Blk.rowH hzW1'.out.2 _) Try.underlying129 rfl (by kernel_rfl)) rfl ?_; exact ⟨by rw [hres'.out]; rfl, hrz⟩
  obtain ⟨x, hx⟩ : ∃ x, l[0]? = some x := ⟨_, List.getElem?_eq_getElem (by have := hl'.out; omega)⟩; have hn1 : 1 ≤ n := by omega
  have h00 : ((n : Int) == 0) = false := by simp; omega
  clear h0; obtain ⟨ga, oa, rfl, hga, f0, f1, f2, f3⟩ := cod_elem (hs'.out.mono hdW1'.out) hx; simp only [Nat.zero_mul, Nat.add_zero] at f0 f1 f2 f3; have hxw := hwf'.out x (List.mem_of_getElem? hx); have HR := rright_any x 0 11 W1 hxw; have HV := fun W => rvalue11_any x.2.2.1 x.2.2.2 W (hxw _ (by simp [cdL])) (hxw _ (by simp [cdL])); have hno := fun h => blockS_no hlast'.out hx h; have hrun := fun v h h2 => blockS_run (v := v) hlast'.out hx h h2; have hgo := fun v h h2 => blockS_go (v := v) hlast'.out hx h h2; have hsv := fun v => @symV_some x 0 11 v; obtain ⟨x0, x1, x2, x3⟩ := x; simp only at f0 f1 f2 f3 HR HV hno hrun hgo hsv; unfold bitC at HV; obtain ⟨q, hq⟩ : ∃ q, symV (x0, x1, x2, x3) 0 11 = q := ⟨_, rfl⟩; rw [hq] at HR hno hrun hgo hsv
  cases q with
  | none =>
    have hres := hno rfl; simp only [Option.isSome_none] at HR; clear hno hrun hgo hsv hq HV hxw hx; have hres' := Lib.hid hres; have HR' := Lib.hid HR; clear hres HR
    go_wp2_with fail
    refine HR'.out.mono ?_; rintro e w2 ⟨rfl, hb2⟩; have hdw2' := Lib.hid (hdW1'.out.trans (hb2.mono hdW1'.out.size)); have hzw2' := Lib.hid (hzW1'.out.late hb2); clear f0 f1 f2 f3 hb2; have hrz := rowBelow hdw2'.out (g := w.heap.size) (Nat.le_refl _) z64
    go_wp2_with (refine wpList_store_row rfl 129 (.tmp 4) (.tmp 29) rfl w.heap.size z64 rfl rfl 129 _ hzw2'.out.2 (by kernel_rfl) (by first | (rw [ints_size hzw2'.out.1]; rfl) | rfl) (by kernel_rfl) ?_)
    go_wp2
    refine bodyPost_ret (results_blk_tmp2 rfl _ _ w.heap.size 129 z64 _ rfl (Blk.rowH hzw2'.out.2 _) Try.underlying129 rfl (by kernel_rfl)) rfl ?_; exact ⟨by rw [hres'.out]; rfl, hrz⟩
  | some v =>
    obtain ⟨⟨o1, o2, o3, o4, o5⟩, hv⟩ := hsv v rfl; simp only [Option.isSome_some] at HR; have f2c := f2; have f3c := f3; have hgaw := hga; clear hno hsv hq o1; have HR' := Lib.hid HR; have HV' := Lib.hid HV; have hxw' := Lib.hid hxw; have hx' := Lib.hid hx; have hrun' := Lib.hid hrun; have hgo' := Lib.hid hgo; have o2' := Lib.hid o2; have o3' := Lib.hid o3; have o4' := Lib.hid o4; have o5' := Lib.hid o5; have hv' := Lib.hid hv; have f2c' := Lib.hid f2c; have f3c' := Lib.hid f3c; have hgaw' := Lib.hid hgaw; clear HR HV hxw hx hrun hgo o2 o3 o4 o5 hv f2c f3c hgaw
    go_wp2_with fail
    refine HR'.out.mono ?_; rintro e w2 ⟨rfl, hb2⟩; have hdw2' := Lib.hid (hdW1'.out.trans (hb2.mono hdW1'.out.size)); have hzw2' := Lib.hid (hzW1'.out.late hb2); have hqw2' := Lib.hid (hqW1'.out.late hb2); have f1 := (hb2.cell (p := ⟨ga, oa + 1, none⟩) hgaw'.out).trans f1; have f2 := (hb2.cell (p := ⟨ga, oa + 2, none⟩) hgaw'.out).trans f2c'.out; have f3 := (hb2.cell (p := ⟨ga, oa + 3, none⟩) hgaw'.out).trans f3c'.out; clear f0 hb2
    by_cases h11 : 11 < x1
    · have hres := hrun'.out v rfl (by have := o2'.out; have := o3'.out; have := o4'.out; omega)
      have hres' := Lib.hid hres; clear hres; have hrz := rowBelow hdw2'.out (g := w.heap.size) (Nat.le_refl _) z64
      go_wp2_with (refine wpList_store_row rfl 129 (.tmp 4) (.tmp 29) rfl w.heap.size z64 rfl rfl 129 _ hzw2'.out.2 (by kernel_rfl) (by first | (rw [ints_size hzw2'.out.1]; rfl) | rfl) (by kernel_rfl) ?_)
      go_wp2
      refine bodyPost_ret (results_blk_tmp2 rfl _ _ w.heap.size 129 z64 _ rfl (Blk.rowH hzw2'.out.2 _) Try.underlying129 rfl (by kernel_rfl)) rfl ?_; exact ⟨by rw [hres'.out]; rfl, hrz⟩
    · have hres := hgo'.out v rfl (by have := o2'.out; omega)
      have HV2 := HV'.out w2; rw [hv'.out] at HV2; unfold valR at HV2; have hrange := valueS_range hv'.out
      have hvr : -2048 < v ∧ v < 2048 := by
        have h1 : (2 : Int) ^ x3.toNat ≤ 2 ^ 11 := by exact_mod_cast Nat.pow_le_pow_right (by decide : 0 < 2) (show x3.toNat ≤ 11 by have := o4'.out; have := o5'.out; omega)
        omega
      have hsum : wrap64 (last + v) = last + v := by have := hsl'.out; unfold wrap64; omega
      obtain ⟨s, hs0⟩ : ∃ s, last + v = s := ⟨_, rfl⟩; rw [hs0] at hres hsum; simp only [Option.getD_some, Option.isSome_some] at HV2; clear hrange hvr; have hres' := Lib.hid hres; have HV2' := Lib.hid HV2; clear hres HV2
      go_wp2_with fail
      refine HV2'.out.mono ?_; rintro e w3 ⟨rfl, hb3⟩; have hdw3' := Lib.hid (hdw2'.out.trans (hb3.mono hdw2'.out.size)); have hzw3' := Lib.hid (hzw2'.out.late hb3); have hqw3' := Lib.hid (hqw2'.out.late hb3); clear f1 f2 f3 hb3; have k0 : w3.cell? ⟨w.heap.size + 1, 0, none⟩ = some (.int .i64 ((List.replicate 64 (0 : Int)).getD 0 0)) := hqw3'.out.cell (by decide); have k1 := hqw3'.out.frozen 0; obtain ⟨hd4, hz4, hq4⟩ := dset hdw3'.out hzw3'.out hqw3'.out 0 s; have hd4' := Lib.hid hd4; have hz4' := Lib.hid hz4; have hq4' := Lib.hid hq4; clear hd4 hz4 hq4
      go_upto_region 8 with fail
      obtain ⟨w4, hw4⟩ : ∃ W, w3.setCell ⟨w.heap.size + 1, 0, none⟩ (.int .i64 s) = W := ⟨_, rfl⟩; rw [hw4] at hd4' hz4' hq4' ⊢; clear k0 k1 hw4 hsum hs0; obtain ⟨RES, hRES⟩ : ∃ R, blkL (l.drop 1) 1 ((List.replicate 64 0).set 0 s) 1 = R := ⟨_, rfl⟩; rw [hRES] at hres'
      have hst0 : blkL (l.drop 1) 1 (frZ ((List.replicate 64 0).set 0 s)) 1 = RES := by
        rw [frZ_set List.length_replicate (by decide), frZ_zero]; exact hRES
      clear hRES; have hst0' := Lib.hid hst0; clear hst0
      go_wp2
      go_loopw [10, 11, 12] (fun uv kv _ wr => ∃ (k u : Nat) (t : List Int), 1 ≤ k ∧ k ≤ 64 ∧ u ≤ n ∧ uv = .int .i64 u ∧ kv = .int .i64 k ∧ Hid (blkL (l.drop u) k (frZ t) u = RES) ∧ Hid (B64 wr w.heap.size 129 (List.replicate 64 0)) ∧ Hid (B64 wr (w.heap.size + 1) 129 t) ∧ Hid (Below w.heap.size w wr)) (fun _ kv _ _ => 64 - (intOf kv).toNat)
      case atStart => exact ⟨1, 1, _, by omega, by omega, hn1, rfl, rfl, hst0', hz4', hq4', hd4'⟩
      case round =>
        rename World => wr
        obtain ⟨k, u, t, hk1, hk64, hu, rfl, rfl, hrun, hzwr', hqwr', hdwr'⟩ := hrel; have hu6 : u ≤ 1000000 := Nat.le_trans hu hn'.out
        by_cases hlt : k < 64
        · by_cases hun : u = n
          · have hfin : blockS l last = .error 3 := by rw [hres'.out, ← hrun.out]; exact blkL_end hlt (by have := hl'.out; omega)
            subst hun; have hfin' := Lib.hid hfin; clear hfin; have hrz := rowBelow hdwr'.out (g := w.heap.size) (Nat.le_refl _) z64
            go_wp2_with (refine wpList_store_row rfl 129 (.tmp 4) (.tmp 48) rfl w.heap.size z64 rfl rfl 129 _ hzwr'.out.2 (by kernel_rfl) (by first | (rw [ints_size hzwr'.out.1]; rfl) | rfl) (by kernel_rfl) ?_)
            go_wp2
            refine bodyPost_ret (results_blk_tmp2 rfl _ _ w.heap.size 129 z64 _ rfl (Blk.rowH hzwr'.out.2 _) Try.underlying129 rfl (by kernel_rfl)) rfl ?_; exact ⟨by rw [hfin'.out]; rfl, hrz⟩
          · obtain ⟨x, hx⟩ : ∃ x, l[u]? = some x := ⟨_, List.getElem?_eq_getElem (by have := hl'.out; omega)⟩
            have c0 : ((u : Int) == (n : Int)) = false := by simp; omega
            have hul : u + 1 ≤ n := by omega
            obtain ⟨gb, ob, e, hgb, f0, f1, f2, f3⟩ := cod_elem (hs'.out.mono hdwr'.out) hx; injection e with e; injection e with e1 e2 _; subst e1 e2; have hxw := hwf'.out x (List.mem_of_getElem? hx); have HV := fun W => rvalue11_any x.2.2.1 x.2.2.2 W (hxw _ (by simp [cdL])) (hxw _ (by simp [cdL])); have HR := fun W => rright_any x 1 10 W hxw; have hno := fun h => blkL_no (b := frZ t) hlt hx h; have hstop := fun v h hs => blkL_stop (v := v) (k := k) (b := frZ t) hlt hx h hs; have hbad := fun v h hs hb => blkL_bad (v := v) (k := k) (b := frZ t) hlt hx h hs hb; have hstep := fun v h hs hb => blkL_step (v := v) (k := k) (b := frZ t) hlt hx h hs hb; rw [hrun.out] at hno hstop hbad hstep; have hsv := fun v => @symV_some x 1 10 v; obtain ⟨x0, x1, x2, x3⟩ := x; simp only at f0 f1 f2 f3 HR HV hno hstop hbad hstep hsv; unfold bitC at HV; obtain ⟨q, hq⟩ : ∃ q, symV (x0, x1, x2, x3) 1 10 = q := ⟨_, rfl⟩; rw [hq] at HR hno hstop hbad hstep hsv; have hal5 := (Below.refl wr.heap.size wr).alloc (Nat.le_refl _) (.cells #[.int .i64 x0, .int .i64 x1, .int .i64 x2, .int .i64 x3] 133); have b5 := Blk.new wr 133 #[.int .i64 x0, .int .i64 x1, .int .i64 x2, .int .i64 x3]; obtain ⟨w5, hw5⟩ : ∃ W, wr.alloc (.cells #[.int .i64 x0, .int .i64 x1, .int .i64 x2, .int .i64 x3] 133) = W := ⟨_, rfl⟩; obtain ⟨g5, hg5⟩ : ∃ g, wr.heap.size = g := ⟨_, rfl⟩; rw [hw5] at hal5; rw [hw5, hg5] at b5; have hdw5' := Lib.hid (hdwr'.out.trans (hal5.mono hdwr'.out.size)); have hzw5' := Lib.hid (hzwr'.out.late hal5); have hqw5' := Lib.hid (hqwr'.out.late hal5); have e0 : w5.cell? ⟨g5, 0, none⟩ = some (.int .i64 x0) := b5.cell rfl; have e1 : w5.cell? ⟨g5, 1, none⟩ = some (.int .i64 x1) := b5.cell rfl; have e2 : w5.cell? ⟨g5, 2, none⟩ = some (.int .i64 x2) := b5.cell rfl; have e3 : w5.cell? ⟨g5, 3, none⟩ = some (.int .i64 x3) := b5.cell rfl; have HR5 := HR w5; clear hal5 HR hrun hzwr' hqwr' hq hx hxw; have hw5' := Lib.hid hw5; have hg5' := Lib.hid hg5; clear hw5 hg5; have HR5' := Lib.hid HR5; have HV' := Lib.hid HV; have hno' := Lib.hid hno; have hstop' := Lib.hid hstop; have hbad' := Lib.hid hbad; have hstep' := Lib.hid hstep; have hsv' := Lib.hid hsv; have b5' := Lib.hid b5; clear HR5 HV hno hstop hbad hstep hsv b5; clear hdwr'
            go_upto_region 13 with fail
            rw [hw5'.out, hg5'.out]; clear f0 f1 f2 f3 hun c0
            cases q with
            | none =>
              have hfin : blockS l last = .error 2 := by rw [hres'.out]; exact hno'.out rfl
              simp only [Option.isSome_none] at HR5'; have hfin' := Lib.hid hfin; clear hfin
              go_wp2_with fail
              refine HR5'.out.mono ?_; rintro e w6 ⟨rfl, hb6⟩; have hdw6' := Lib.hid (hdw5'.out.trans (hb6.mono hdw5'.out.size)); have hzw6' := Lib.hid (hzw5'.out.late hb6); clear e0 e1 e2 e3 hb6; have hrz := rowBelow hdw6'.out (g := w.heap.size) (Nat.le_refl _) z64
              go_wp2_with (refine wpList_store_row rfl 129 (.tmp 4) (.tmp 56) rfl w.heap.size z64 rfl rfl 129 _ hzw6'.out.2 (by kernel_rfl) (by first | (rw [ints_size hzw6'.out.1]; rfl) | rfl) (by kernel_rfl) ?_)
              go_wp2
              refine bodyPost_ret (results_blk_tmp2 rfl _ _ w.heap.size 129 z64 _ rfl (Blk.rowH hzw6'.out.2 _) Try.underlying129 rfl (by kernel_rfl)) rfl ?_; exact ⟨by rw [hfin'.out]; rfl, hrz⟩
            | some v =>
              simp only [Option.isSome_some] at HR5'
              go_wp2_with fail
              refine HR5'.out.mono ?_; rintro e w6 ⟨rfl, hb6⟩; have hdw6' := Lib.hid (hdw5'.out.trans (hb6.mono hdw5'.out.size)); have hzw6' := Lib.hid (hzw5'.out.late hb6); have hqw6' := Lib.hid (hqw5'.out.late hb6); have b6 := b5'.out.late hb6; clear e0 e1 e2 e3 hb6; have e1 : w6.cell? ⟨g5, 1, none⟩ = some (.int .i64 x1) := b6.cell rfl; have e2 : w6.cell? ⟨g5, 2, none⟩ = some (.int .i64 x2) := b6.cell rfl; have e3 : w6.cell? ⟨g5, 3, none⟩ = some (.int .i64 x3) := b6.cell rfl; obtain ⟨⟨o1, o2, o3, o4, o5⟩, hv⟩ := hsv'.out v rfl; have hvz := valueS_zero hv; rw [o5] at hvz; have hvv' := Lib.hid hv; have hstop := hstop'.out v rfl; have hbad := hbad'.out v rfl; have hstep := hstep'.out v rfl
              try simp only at hstop hbad hstep
              obtain ⟨s1, s2, s3, s4, s5, s6, s7⟩ := sixteen o2 o3; obtain ⟨R, hR⟩ : ∃ R : Nat, x1 / 16 = R := ⟨(x1 / 16).toNat, by omega⟩; obtain ⟨z, hz⟩ : ∃ z, x1 % 16 = z := ⟨_, rfl⟩; rw [hR] at hstop hbad hstep s2 s5 s6 s7; rw [hz] at hvz s1 s3 s4 s7; rw [Int.toNat_natCast] at hbad hstep; obtain ⟨m, hm⟩ : ∃ m, k + R = m := ⟨_, rfl⟩; rw [hm] at hbad hstep; clear b6 o1 o4 o5 hv hR hz hno' hstop' hbad' hstep' hsv' b5'
              by_cases cz : x1 = 0
              · have hfin : blockS l last = .ok (frZ t, u + 1) := by
                  rw [hres'.out]; exact hstop ⟨hvz.2 (by omega), by omega⟩
                clear hstop hbad hstep hvz s7 s1 s2 s3 s4 s5 s6; subst cz; have hfin' := Lib.hid hfin; clear hfin; obtain ⟨A, hA⟩ : ∃ A, (ints .i64 t).toArray = A := ⟨_, rfl⟩; obtain ⟨A2, hA2⟩ : ∃ A, (ints .i64 (frZ t)).toArray = A := ⟨_, rfl⟩; have hA2s : A2.size = 64 := by rw [← hA2]; exact ints_size (frZ_len _)
                have hone : A2.all (·.oneCell') = true := by rw [← hA2]; exact ints_one'
                have hbi : (ints .i64 t).length = 64 := by rw [ints_len]; exact hqw6'.out.1
                have z1 : ∀ j v, (ints .i64 t)[j]? = some v → (w6).cell? ⟨w.heap.size + 1, 0 + j, none⟩ = some v := fun j v hv => hqw6'.out.2.cell (by rw [Nat.zero_add, List.getElem?_toArray]; exact hv); have HF := rfrom_any t A hA w6 hqw6'.out.1; rw [hA2] at HF; have hA' := Lib.hid hA; have hA2' := Lib.hid hA2; have hA2s' := Lib.hid hA2s; have hone' := Lib.hid hone; have hbi' := Lib.hid hbi; have z1' := Lib.hid z1; have HF' := Lib.hid HF; clear hA hA2 hA2s hone hbi z1 HF
                go_wp2_with (refine wpList_load_at rfl 129 (.tmp 7) rfl (w.heap.size + 1) 0 rfl (ints .i64 t) A hA'.out _ z1'.out Try.underlying129 rfl 64 infoB64 hbi'.out ?_)
                refine HF'.out.mono ?_; rintro e wf ⟨rfl, hbf⟩; have hzf := hzw6'.out.2.late hbf; have hdf := hdw6'.out.trans (hbf.mono hdw6'.out.size); clear hbf; have hzf' := Lib.hid hzf; have hdf' := Lib.hid hdf; clear hzf hdf
                go_wp2_with (refine wpList_store_row rfl 129 (.tmp 4) (.tmp 92) rfl w.heap.size A2 rfl rfl 129 _ hzf'.out (by rw [hA2s'.out]; exact infoB64) (by rw [hA2s'.out]; exact ints_size hzw6'.out.1) hone'.out ?_)
                go_wp2
                refine bodyPost_ret (results_blk_tmp2 rfl _ _ w.heap.size 129 A2 _ rfl (Blk.rowH hzf'.out A2) Try.underlying129 rfl (by rw [hA2s'.out]; exact infoB64)) rfl ?_; exact ⟨by rw [hfin'.out, ← hA2'.out]; rfl, rowBelow hdf'.out (g := w.heap.size) (Nat.le_refl _) A2⟩
              · have cz0 : (x1 == 0) = false := by simpa using cz
                have hkr : (k : Int) + R = (m : Int) := by clear hbad hstep hstop; omega
                have hR15b : R ≤ 15 := by clear hbad hstep hstop; omega
                have hzb : 0 ≤ z ∧ z ≤ 15 := ⟨s3, by clear hbad hstep hstop; omega⟩; clear hstop
                by_cases czz : z = 0
                · have hv0 := hvz.2 czz
                  have cs : ¬ (v = 0 ∧ (R : Int) = 0) := fun h => cz (by rw [s7, h.2, czz]; rfl)
                  by_cases cf : x1 = 240
                  · have cf0 : (x1 != 240) = false := by simpa using cf
                    have hR15 : (R : Int) = 15 := by clear hbad hstep hvz; omega
                    have hbad := fun hs hb => hbad hs (show (v = 0 ∧ (R : Int) ≠ 15) ∨ 64 ≤ m from hb); have hstep := fun hs (hb : ¬ 64 ≤ m) => hstep hs (fun h => h.elim (fun h => h.2 hR15) hb); clear hvz hv0 s7 hR15 cf cz o2 o3 s3 s4 s5 s6; have cs' := Lib.hid cs; clear cs
                    by_cases ck : 64 ≤ m
                    · have hfin : blockS l last = .error 2 := by rw [hres'.out, hbad cs'.out (.inr ck)]
                      have ck0 : (63 : Int) < (m : Int) := by clear hbad hstep s1 s2; omega
                      clear hbad hstep; have hfin' := Lib.hid hfin; clear hfin; have hrz := rowBelow hdw6'.out (g := w.heap.size) (Nat.le_refl _) z64
                      go_wp2_with (refine wpList_store_row rfl 129 (.tmp 4) (.tmp 80) rfl w.heap.size z64 rfl rfl 129 _ hzw6'.out.2 (by kernel_rfl) (by first | (rw [ints_size hzw6'.out.1]; rfl) | rfl) (by kernel_rfl) ?_)
                      go_wp2
                      refine bodyPost_ret (results_blk_tmp2 rfl _ _ w.heap.size 129 z64 _ rfl (Blk.rowH hzw6'.out.2 _) Try.underlying129 rfl (by kernel_rfl)) rfl ?_; exact ⟨by rw [hfin'.out]; rfl, hrz⟩
                    · have hst := hstep cs'.out ck
                      have ck0 : ¬ (63 : Int) < (m : Int) := by clear hbad hstep hst s1 s2; omega
                      have hm64 : m < 64 := Nat.lt_of_not_le ck; clear hbad hstep; have hst' := Lib.hid hst; clear hst
                      go_upto_region 20 with fail
                      have hst := hst'.out.symm; clear s1 s2 hkr hR15b hzb hst'; have HV2 := HV'.out w6; rw [hvv'.out] at HV2; unfold valR at HV2; simp only [Option.getD_some, Option.isSome_some] at HV2; rw [← frZ_set hqw6'.out.1 hm64] at hst; have hst' := Lib.hid hst; have HV2' := Lib.hid HV2; clear hst HV2
                      go_wp2_with fail
                      refine HV2'.out.mono ?_; rintro e w7 ⟨rfl, hb7⟩; have k0 : w7.cell? ⟨w.heap.size + 1, m, none⟩ = some (.int .i64 (t.getD m 0)) := (hqw6'.out.late hb7).cell (by omega); have k1 := (hqw6'.out.late hb7).frozen m; obtain ⟨hd8, hz8, hq8⟩ := dset (hdw6'.out.trans (hb7.mono hdw6'.out.size)) (hzw6'.out.late hb7) (hqw6'.out.late hb7) m v; clear e1 e2 e3 hb7; have hd8' := Lib.hid hd8; have hz8' := Lib.hid hz8; have hq8' := Lib.hid hq8; clear hd8 hz8 hq8
                      go_wp2
                      go_roundw
                      case rel => exact ⟨m + 1, u + 1, _, by omega, by omega, by omega, by go_num, by go_num, hst', hz8', hq8', hd8'⟩
                      case measure => simp [intOf]; omega
                  · have cf0 : (x1 != 240) = true := by simpa using cf
                    have hfin : blockS l last = .error 2 := by rw [hres'.out]; exact hbad cs (.inl ⟨hv0, fun h => cf (by rw [s7, h, czz]; rfl)⟩)
                    clear hbad hstep hvz hv0 s7 cf cz cs o2 o3 s3 s4 s5 s6; have hfin' := Lib.hid hfin; clear hfin; have hrz := rowBelow hdw6'.out (g := w.heap.size) (Nat.le_refl _) z64
                    go_wp2_with (refine wpList_store_row rfl 129 (.tmp 4) (.tmp 80) rfl w.heap.size z64 rfl rfl 129 _ hzw6'.out.2 (by kernel_rfl) (by first | (rw [ints_size hzw6'.out.1]; rfl) | rfl) (by kernel_rfl) ?_)
                    go_wp2
                    refine bodyPost_ret (results_blk_tmp2 rfl _ _ w.heap.size 129 z64 _ rfl (Blk.rowH hzw6'.out.2 _) Try.underlying129 rfl (by kernel_rfl)) rfl ?_; exact ⟨by rw [hfin'.out]; rfl, hrz⟩
                · have czz0 : (z == 0) = false := by simpa using czz
                  have hvn : ¬ v = 0 := fun h => czz (hvz.1 h); have cs : ¬ (v = 0 ∧ (R : Int) = 0) := fun h => hvn h.1; have hbad := fun hs hb => hbad hs (show (v = 0 ∧ (R : Int) ≠ 15) ∨ 64 ≤ m from hb); have hstep := fun hs (hb : ¬ 64 ≤ m) => hstep hs (fun h => h.elim (fun h => hvn h.1) hb); clear hvz s7 cz czz hvn o2 o3 s3 s4 s5 s6; have cs' := Lib.hid cs; clear cs
                  by_cases ck : 64 ≤ m
                  · have hfin : blockS l last = .error 2 := by rw [hres'.out, hbad cs'.out (.inr ck)]
                    have ck0 : (63 : Int) < (m : Int) := by clear hbad hstep s1 s2; omega
                    clear hbad hstep; have hfin' := Lib.hid hfin; clear hfin; have hrz := rowBelow hdw6'.out (g := w.heap.size) (Nat.le_refl _) z64
                    go_wp2_with (refine wpList_store_row rfl 129 (.tmp 4) (.tmp 80) rfl w.heap.size z64 rfl rfl 129 _ hzw6'.out.2 (by kernel_rfl) (by first | (rw [ints_size hzw6'.out.1]; rfl) | rfl) (by kernel_rfl) ?_)
                    go_wp2
                    refine bodyPost_ret (results_blk_tmp2 rfl _ _ w.heap.size 129 z64 _ rfl (Blk.rowH hzw6'.out.2 _) Try.underlying129 rfl (by kernel_rfl)) rfl ?_; exact ⟨by rw [hfin'.out]; rfl, hrz⟩
                  · have hst := hstep cs'.out ck
                    have ck0 : ¬ (63 : Int) < (m : Int) := by clear hbad hstep hst s1 s2; omega
                    have hm64 : m < 64 := Nat.lt_of_not_le ck; clear hbad hstep; have hst' := Lib.hid hst; clear hst
                    go_upto_region 20 with fail
                    have hst := hst'.out.symm; clear s1 s2 hkr hR15b hzb hst'; have HV2 := HV'.out w6; rw [hvv'.out] at HV2; unfold valR at HV2; simp only [Option.getD_some, Option.isSome_some] at HV2; rw [← frZ_set hqw6'.out.1 hm64] at hst; have hst' := Lib.hid hst; have HV2' := Lib.hid HV2; clear hst HV2
                    go_wp2_with fail
                    refine HV2'.out.mono ?_; rintro e w7 ⟨rfl, hb7⟩; have k0 : w7.cell? ⟨w.heap.size + 1, m, none⟩ = some (.int .i64 (t.getD m 0)) := (hqw6'.out.late hb7).cell (by omega); have k1 := (hqw6'.out.late hb7).frozen m; obtain ⟨hd8, hz8, hq8⟩ := dset (hdw6'.out.trans (hb7.mono hdw6'.out.size)) (hzw6'.out.late hb7) (hqw6'.out.late hb7) m v; clear e1 e2 e3 hb7; have hd8' := Lib.hid hd8; have hz8' := Lib.hid hz8; have hq8' := Lib.hid hq8; clear hd8 hz8 hq8
                    go_wp2
                    go_roundw
                    case rel => exact ⟨m + 1, u + 1, _, by omega, by omega, by omega, by go_num, by go_num, hst', hz8', hq8', hd8'⟩
                    case measure => simp [intOf]; omega
        · obtain rfl : k = 64 := by omega
          have hfin : blockS l last = .ok (frZ t, u) := by rw [hres'.out, ← hrun.out]; exact blkL_full _ _ _ (Nat.le_refl _)
          have hfin' := Lib.hid hfin; clear hfin; obtain ⟨A, hA⟩ : ∃ A, (ints .i64 t).toArray = A := ⟨_, rfl⟩; obtain ⟨A2, hA2⟩ : ∃ A, (ints .i64 (frZ t)).toArray = A := ⟨_, rfl⟩; have hA2s : A2.size = 64 := by rw [← hA2]; exact ints_size (frZ_len _)
          have hone : A2.all (·.oneCell') = true := by rw [← hA2]; exact ints_one'
          have hbi : (ints .i64 t).length = 64 := by rw [ints_len]; exact hqwr'.out.1
          have z1 : ∀ j v, (ints .i64 t)[j]? = some v → (wr).cell? ⟨w.heap.size + 1, 0 + j, none⟩ = some v := fun j v hv => hqwr'.out.2.cell (by rw [Nat.zero_add, List.getElem?_toArray]; exact hv); have HF := rfrom_any t A hA wr hqwr'.out.1; rw [hA2] at HF; have hA' := Lib.hid hA; have hA2' := Lib.hid hA2; have hA2s' := Lib.hid hA2s; have hone' := Lib.hid hone; have hbi' := Lib.hid hbi; have z1' := Lib.hid z1; have HF' := Lib.hid HF; clear hA hA2 hA2s hone hbi z1 HF
          go_wp2_with (refine wpList_load_at rfl 129 (.tmp 7) rfl (w.heap.size + 1) 0 rfl (ints .i64 t) A hA'.out _ z1'.out Try.underlying129 rfl 64 infoB64 hbi'.out ?_)
          refine HF'.out.mono ?_; rintro e wf ⟨rfl, hbf⟩; have hzf := hzwr'.out.2.late hbf; have hdf := hdwr'.out.trans (hbf.mono hdwr'.out.size); clear hbf; have hzf' := Lib.hid hzf; have hdf' := Lib.hid hdf; clear hzf hdf
          go_wp2_with (refine wpList_store_row rfl 129 (.tmp 4) (.tmp 92) rfl w.heap.size A2 rfl rfl 129 _ hzf'.out (by rw [hA2s'.out]; exact infoB64) (by rw [hA2s'.out]; exact ints_size hzwr'.out.1) hone'.out ?_)
          go_wp2
          refine bodyPost_ret (results_blk_tmp2 rfl _ _ w.heap.size 129 A2 _ rfl (Blk.rowH hzf'.out A2) Try.underlying129 rfl (by rw [hA2s'.out]; exact infoB64)) rfl ?_; exact ⟨by rw [hfin'.out, ← hA2'.out]; rfl, rowBelow hdf'.out (g := w.heap.size) (Nat.le_refl _) A2⟩
end Go.Proofs.Ytpjopeojeglogaa
