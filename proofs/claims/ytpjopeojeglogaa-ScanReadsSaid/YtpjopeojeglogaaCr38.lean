/- Chapter 12, the document's side: block. -/
import Derived.Test.YtpjopeojeglogaaCr35
import Derived.Test.YtpjopeojeglogaaCr37
import Derived.Test.YtpjopeojeglogaaCr31
namespace Go.Proofs.Ytpjopeojeglogaa
open Go.RowKit Tt
set_option linter.unusedVariables false
set_option linter.unusedSimpArgs false

theorem sizeI64 (w : World) : (Go.sizeOf 3).run Try.prog w = .ok 1 w := by kernel_rfl
theorem infoCod5 : (Try.prog.info? 133).map (fun i => (i.zero, i.size, i.bytes)) = some (some (.agg #[.int .i64 0, .int .i64 0, .int .i64 0, .int .i64 0]), 4, 32) := by kernel_rfl
theorem in_trans {a b c : Option Addr} (h : In a b) (k : In b c) : In a c := fun x hx => by
  obtain ⟨y, hy, e⟩ := h x hx; obtain ⟨z, hz, e2⟩ := k y hy; exact ⟨z, hz, e2.trans e⟩
/-- how a block's reading ends -/
def RbP (p : PtM) (last : Int) (L : List Int) (la : Option Addr) (ln : Nat) (w : World) (e : Ending) (w' : World) : Prop :=
  ((blkR p last 65 [] L = none ∧ ∃ (Z : List Int) (a2 : Option Addr) (n2 c2 : Nat), Z.length = 64 ∧ e = .returned (.tuple #[.agg (ints .i64 Z).toArray, .slice a2 n2 c2, .bool false])) ∨
    ∃ (b : List Int) (k : Nat) (a2 : Option Addr) (n2 c2 : Nat), blkR p last 65 [] L = some (b, L.drop k) ∧ e = .returned (.tuple #[.agg (ints .i64 b).toArray, .slice a2 n2 c2, .bool true]) ∧ b.length = 64 ∧ Sl w a2 n2 c2 1 (ints .i64 (L.drop k)) ∧ n2 ≤ ln ∧ 0 ≤ sizeS (b.getD 0 0) ∧ In a2 la) ∧ Below w.heap.size w w'
theorem RbP.no {p : PtM} {last : Int} {L : List Int} {la : Option Addr} {ln : Nat} {w w' : World} {e : Ending} (h : blkR p last 65 [] L = none) {Z : List Int} {a2 : Option Addr} {n2 c2 : Nat} (hZ : Z.length = 64) (he : e = .returned (.tuple #[.agg (ints .i64 Z).toArray, .slice a2 n2 c2, .bool false])) (hb : Below w.heap.size w w') : RbP p last L la ln w e w' := ⟨.inl ⟨h, Z, a2, n2, c2, hZ, he⟩, hb⟩
theorem RbP.yes {p : PtM} {last : Int} {L : List Int} {la : Option Addr} {ln : Nat} {w w' : World} {e : Ending} {b : List Int} {k : Nat} (h : blkR p last 65 [] L = some (b, L.drop k)) {a2 : Option Addr} {n2 c2 : Nat} (he : e = .returned (.tuple #[.agg (ints .i64 b).toArray, .slice a2 n2 c2, .bool true])) (h64 : b.length = 64) (hs : Sl w a2 n2 c2 1 (ints .i64 (L.drop k))) (hn : n2 ≤ ln) (h0 : 0 ≤ sizeS (b.getD 0 0)) (hin : In a2 la) (hb : Below w.heap.size w w') : RbP p last L la ln w e w' := ⟨.inr ⟨b, k, a2, n2, c2, h, he, h64, hs, hn, h0, hin⟩, hb⟩
theorem RbP.both {p : PtM} {last : Int} {L : List Int} {la : Option Addr} {ln : Nat} {w w' : World} {e : Ending} (h : RbP p last L la ln w e w') :
    ∃ (Z : List Int) (a2 : Option Addr) (n2 c2 : Nat) (ok : Bool), e = .returned (.tuple #[.agg (ints .i64 Z).toArray, .slice a2 n2 c2, .bool ok]) ∧ Z.length = 64 ∧ Below w.heap.size w w' ∧ (ok = false → blkR p last 65 [] L = none) ∧
      (ok = true → ∃ k, blkR p last 65 [] L = some (Z, L.drop k) ∧ Sl w a2 n2 c2 1 (ints .i64 (L.drop k)) ∧ n2 ≤ ln ∧ 0 ≤ sizeS (Z.getD 0 0) ∧ In a2 la) := by
  obtain ⟨h, hb⟩ := h
  rcases h with ⟨h1, Z, a2, n2, c2, h2, rfl⟩ | ⟨b, k, a2, n2, c2, h1, rfl, h2, h3, h4, h5, h6⟩
  · exact ⟨Z, a2, n2, c2, false, rfl, h2, hb, fun _ => h1, fun h => by cases h⟩
  · exact ⟨b, a2, n2, c2, true, rfl, h2, hb, (fun h => by cases h), fun _ => ⟨k, h1, h3, h4, h5, h6⟩⟩
/-- a table of a plane: which symbol comes next -/
theorem rnextH {w : World} {h : HufM} (k : HufOk w h) (hm : hMay h.1.1 h.1.2 = true) (H : Array Value) (hH : (hufC h).toArray = H) (W : World) (hb : Below w.heap.size w W) {la : Option Addr} {ln lc : Nat} {B : List Int} (hB : Sl w la ln lc 1 (ints .i64 B)) (hL : BitL B) :
    Calls Try.prog 82 #[.agg H, .slice la ln lc] W fun e w' => e = .returned (nextV (nextS h.1.1 h.1.2 B)) ∧ Below W.heap.size W w' := by
  have := rnext_any h.1.1 h.1.2 B h.2.1 la h.2.2.1 h.2.2.2 ln lc W k.len hm (k.sl.mono hb) (hB.mono hb) hL; unfold hV at this; rw [← hH]; exact this
set_option maxRecDepth 100000 in
set_option maxHeartbeats 2000000 in
theorem rblock12_any (p : PtM) (A : Array Value) (hA : (pC p).toArray = A) (la : Option Addr) (ln lc : Nat) (L : List Int) (last : Int) (w : World) (hp : PtOk w p) (hm1 : hMay p.2.2.1.1.1 p.2.2.1.1.2 = true) (hm2 : hMay p.2.2.2.1.1 p.2.2.2.1.2 = true) (hs : Sl w la ln lc 1 (ints .i64 L)) (hL : BitL L) (hlast : 0 ≤ sizeS last) (hln : ln ≤ 100000) :
    Calls Try.prog 108 #[.agg A, .slice la ln lc, .int .i64 last] w (RbP p last L la ln w) := by
  obtain ⟨iC, hiC, hzC0, hzC1, hzC2⟩ := info_parts infoCod5; have hll := hs.ilen; have hcl := pC_len hp; obtain ⟨W1, hW1, bP, bZ, hal, s1⟩ := two_boxes w 47 A 129 z64; have s1 : w.heap.size ≤ W1.heap.size := by omega
  have hpc := fun W (b : Blk W w.heap.size 47 A) => pB_cells (p := p) hp.dc.len (hA ▸ b); obtain ⟨H1, hH1⟩ : ∃ H, (hufC p.2.2.1).toArray = H := ⟨_, rfl⟩; obtain ⟨H2, hH2⟩ : ∃ H, (hufC p.2.2.2).toArray = H := ⟨_, rfl⟩; have hl1 := hufC_len hp.dc.len; have hl2 := hufC_len hp.ac.len; have hs1 : H1.size = 17 := by rw [← hH1]; simpa using hl1
  have hs2 : H2.size = 17 := by rw [← hH2]; simpa using hl2
  have ho1 : H1.all (·.oneCell') = true := by rw [← hH1, Array.all_eq_true_iff_forall_mem]; exact fun x hx => hufC_one x (by simpa using hx)
  have ho2 : H2.all (·.oneCell') = true := by rw [← hH2, Array.all_eq_true_iff_forall_mem]; exact fun x hx => hufC_one x (by simpa using hx)
  have N1 := fun W hb {la ln lc B} => rnextH (W := W) hp.dc hm1 H1 hH1 (hb := hb) (la := la) (ln := ln) (lc := lc) (B := B); have N2 := fun W hb {la ln lc B} => rnextH (W := W) hp.ac hm2 H2 hH2 (hb := hb) (la := la) (ln := ln) (lc := lc) (B := B); unfold z64 at hW1; clear hp hA; have hm1' := Lib.hid hm1; have hm2' := Lib.hid hm2; have hs' := Lib.hid hs; have hL' := Lib.hid hL; have hlast' := Lib.hid hlast; have hll' := Lib.hid hll; have hcl' := Lib.hid hcl; have hW1' := Lib.hid hW1; have bP' := Lib.hid bP; have bZ' := Lib.hid bZ; have hal' := Lib.hid hal; have s1' := Lib.hid s1; have hpc' := Lib.hid hpc; have hH1' := Lib.hid hH1; have hH2' := Lib.hid hH2; have hl1' := Lib.hid hl1; have hl2' := Lib.hid hl2; have hs1' := Lib.hid hs1; have hs2' := Lib.hid hs2; have ho1' := Lib.hid ho1; have ho2' := Lib.hid ho2; have N1' := Lib.hid N1; have N2' := Lib.hid N2; clear hm1 hm2 hs hL hlast hll hcl hW1 bP bZ hal s1 hpc hH1 hH2 hl1 hl2 hs1 hs2 ho1 ho2 N1 N2
  go_enter Try.func108, Try.ntmps108
  go_upto_region 1 with fail
  rw [hW1'.out]
  go_wp2
  go_loopw [1, 9, 10, 11, 12, 13, 14, 15, 16, 17] (fun lv rv _ _ _ _ _ _ _ _ wr => ∃ (k f m n2 c2 cr : Nat) (a2 ar : Option Addr) (l : List Cod), f + m = 65 ∧ 1 ≤ f ∧ n2 + k = ln ∧ lv = .slice a2 n2 c2 ∧ rv = .slice ar m cr ∧ Hid (m = l.length) ∧ Hid (blkR p last 65 [] L = blkR p last f l (L.drop k)) ∧ Hid (Sl w a2 n2 c2 1 (ints .i64 (L.drop k)) ∧ In a2 la) ∧ Hid (wr.ownsRow W1.heap.size 133 4 (.slice ar m cr) m (codC l)) ∧ Hid (∀ x ∈ l, ∀ y ∈ cdL x, Wf y) ∧ Hid (Below w.heap.size w wr ∧ Below W1.heap.size W1 wr)) (fun lv _ _ _ _ _ _ _ _ _ _ => sliceLen lv)
  case atStart => exact ⟨0, 65, 0, ln, lc, 0, la, none, [], rfl, by omega, by omega, rfl, rfl, Lib.hid rfl, Lib.hid rfl, Lib.hid ⟨hs'.out, fun x hx => ⟨x, hx, rfl⟩⟩, Lib.hid (own_nil _ _ _ _), Lib.hid (fun x h => by cases h), Lib.hid ⟨hal'.out, Below.refl _ _⟩⟩
  case round =>
    rename World => wr
    obtain ⟨k, f, m, n2, c2, cr, a2, ar, l, hfm, hf, hnk, rfl, rfl, hml, hrun, hsB, hown, hlw, hbw⟩ := hrel; have bPw := bP'.out.late hbw.out.2; obtain ⟨_, _, k2, k3⟩ := hpc'.out wr bPw; obtain ⟨W2, hW2⟩ : ∃ W, wr.alloc (.cells H1 45) = W := ⟨_, rfl⟩; have b10 := Blk.new wr 45 H1; have hal2 := (Below.refl wr.heap.size wr).alloc (Nat.le_refl _) (.cells H1 45); rw [hW2] at b10 hal2; have hsz2 : W2.heap.size = wr.heap.size + 1 := by rw [← hW2]; simp only [World.size_alloc]
    obtain ⟨W3, hW3⟩ : ∃ W, W2.alloc (.cells #[.int .i64 0, .int .i64 0, .int .i64 0, .int .i64 0] 133) = W := ⟨_, rfl⟩; have b11 := Blk.new W2 133 #[.int .i64 0, .int .i64 0, .int .i64 0, .int .i64 0]; have hal3 := (Below.refl W2.heap.size W2).alloc (Nat.le_refl _) (.cells #[.int .i64 0, .int .i64 0, .int .i64 0, .int .i64 0] 133); rw [hW3] at b11 hal3; rw [hsz2] at b11; have hb3 := hal2.trans (hal3.mono hal2.size); have b103 := b10.late hal3; have k33 := fun j v hv => (hal2.trans (hal3.mono hal2.size)).cell (p := ⟨w.heap.size, 19 + j, none⟩) bPw.lt |>.trans (k3 j v hv)
    clear hal2 hal3 k3 b10; have hW2' := Lib.hid hW2; have hW3' := Lib.hid hW3; have b11' := Lib.hid b11; have hb3' := Lib.hid hb3; have b103' := Lib.hid b103; have k33' := Lib.hid k33; have bPw' := Lib.hid bPw; have hsz2' := Lib.hid hsz2; clear hW2 hW3 b11 hb3 b103 k33 bPw hsz2
    go_upto_region 3 with (first
      | (refine wpList_load_at rfl 45 (.tmp 18) rfl w.heap.size 2 rfl (hufC p.2.2.1) H1 hH1'.out _ k2 Try.underlying45 rfl 17 infoH17 hl1'.out ?_)
      | (refine wpList_store_row rfl 45 (.tmp 10) (.tmp 19) rfl wr.heap.size H1 rfl rfl 45 _ (heap_new _ _) (by rw [hs1'.out]; exact infoH17) (by rw [hs1'.out]; rfl) ho1'.out ?_))
    rw [setRow_alloc, hW2'.out]; clear k2
    go_upto_region 4 with fail
    rw [hW3'.out, hsz2'.out]
    rcases Nat.eq_zero_or_pos m with hm0 | hm0
    · subst hm0
      have hl0 : l = [] := List.eq_nil_of_length_eq_zero hml.out.symm; have hbr := hb3'.out; have b10 := b103'.out; have b11 := b11'.out; clear b103' b11' k33'; have hbWW := And.intro (hbw.out.1.trans (hbr.mono hbw.out.1.size)) (hbw.out.2.trans (hbr.mono hbw.out.2.size)); have HN := N1'.out W3 hbWW.1 hsB.out.1 (hL'.out.drop k); have hnp : nextP p (min l.length 1) (L.drop k) = nextS p.2.2.1.1.1 p.2.2.1.1.2 (L.drop k) := (by unfold nextP; rw [hl0]; rfl); have hownW := own_later hown.out hbr; obtain ⟨f', rfl⟩ : ∃ f', f = f' + 1 := ⟨f - 1, by omega⟩; obtain ⟨NX, hNX⟩ : ∃ o, nextS p.2.2.1.1.1 p.2.2.1.1.2 (L.drop k) = o := ⟨_, rfl⟩; rw [hNX] at HN hnp; have hBl := hsB.out.1.ilen; have hle2 := hsB.out.1.le; have hn2 : n2 ≤ 100000 := by have := hln; omega
      have fH : ∀ j v, (hufC p.2.2.1)[j]? = some v → (W3).cell? ⟨wr.heap.size, 0 + j, none⟩ = some v := fun j v hv => b10.cell (by rw [← hH1'.out, Nat.zero_add, List.getElem?_toArray]; exact hv); clear hbr; have b11' := Lib.hid b11; have hbWW' := Lib.hid hbWW; have HN' := Lib.hid HN; have hownW' := Lib.hid hownW; have hBl' := Lib.hid hBl; have hNX' := Lib.hid hNX; have fH' := Lib.hid fH; have b10' := Lib.hid b10; have hfm' := Lib.hid hfm; have hnk' := Lib.hid hnk; have hl0' := Lib.hid hl0; have hf' := Lib.hid hf; clear b11 hbWW HN hownW hBl hNX fH b10 hfm hnk hl0 hf
      go_wp2_with (refine wpList_load_at rfl 45 (.tmp 10) rfl wr.heap.size 0 rfl (hufC p.2.2.1) H1 hH1'.out _ fH'.out Try.underlying45 rfl 17 infoH17 hl1'.out ?_)
      refine HN'.out.mono ?_; rintro e w6 ⟨rfl, hb6⟩; have hbw6' := Lib.hid (And.intro (hbWW'.out.1.trans (hb6.mono hbWW'.out.1.size)) (hbWW'.out.2.trans (hb6.mono hbWW'.out.2.size))); have b11 := b11'.out.late hb6; have hown6' := Lib.hid (own_later hownW'.out hb6); unfold nextV; clear hb6 b10' fH' HN' hownW' b11'
      cases NX with
      | none =>
        have hres : blkR p last 65 [] L = none := hrun.out.trans (blkR_none (symbR_none hnp)); simp only [Option.map_none, Option.getD_none, Int.natCast_zero]; clear hnp b11; have hres' := Lib.hid hres; clear hres; have hzz := bZ'.out.late hbw6'.out.2
        go_wp2_with (refine wpList_store_row rfl 129 (.tmp 6) (.tmp 49) rfl (w.heap.size + 1) z64 rfl rfl 129 _ hzz (by kernel_rfl) rfl (by kernel_rfl) ?_)
        go_wp2
        refine bodyPost_ret (results_blk_tmp2 rfl _ _ (w.heap.size + 1) 129 z64 _ rfl (Blk.rowH hzz _) Try.underlying129 rfl (by kernel_rfl)) rfl ?_; exact RbP.no hres'.out (Z := List.replicate 64 0) List.length_replicate rfl (rowBelow hbw6'.out.1 (Nat.le_succ _) z64)
      | some v =>
        obtain ⟨y, q⟩ := v; simp only [Option.map_some, Option.getD_some]; obtain ⟨hq1, hq16, hql, hqx⟩ := nextS_le hm1'.out hNX'.out; obtain ⟨y0, y255⟩ := nextS_sym hm1'.out hNX'.out; obtain ⟨z1, z2, z3, z4, zz⟩ := sixteen y0 y255; clear z2 zz hqx; obtain ⟨sz, hsz⟩ : ∃ sz : Nat, y % 16 = sz := ⟨(y % 16).toNat, by omega⟩; rw [hBl'.out] at hql; have hsz15 : sz ≤ 15 := by omega
        rw [hsz] at z1; have hbad := fun h => hrun.out.trans (blkR_none (f := f') (l := l) (last := last) (symbR_bad hnp h)); rw [hsz, hBl'.out, Int.toNat_natCast] at hbad
        by_cases d1 : (11 : Int) < sz
        · have hres := hbad (.inl (by omega))
          clear hnp b11 hbad y0 y255 z3 z4 hsz hsz15; have hres' := Lib.hid hres; clear hres; have hzz := bZ'.out.late hbw6'.out.2
          go_wp2_with (refine wpList_store_row rfl 129 (.tmp 6) (.tmp 49) rfl (w.heap.size + 1) z64 rfl rfl 129 _ hzz (by kernel_rfl) rfl (by kernel_rfl) ?_)
          go_wp2
          refine bodyPost_ret (results_blk_tmp2 rfl _ _ (w.heap.size + 1) 129 z64 _ rfl (Blk.rowH hzz _) Try.underlying129 rfl (by kernel_rfl)) rfl ?_; exact RbP.no hres'.out (Z := List.replicate 64 0) List.length_replicate rfl (rowBelow hbw6'.out.1 (Nat.le_succ _) z64)
        by_cases d2 : (n2 : Int) < (q : Int) + sz
        · have hres := hbad (.inr (by omega))
          clear hnp b11 hbad y0 y255 z3 z4 hsz; have hres' := Lib.hid hres; clear hres; have hzz := bZ'.out.late hbw6'.out.2
          go_wp2_with (refine wpList_store_row rfl 129 (.tmp 6) (.tmp 49) rfl (w.heap.size + 1) z64 rfl rfl 129 _ hzz (by kernel_rfl) rfl (by kernel_rfl) ?_)
          go_wp2
          refine bodyPost_ret (results_blk_tmp2 rfl _ _ (w.heap.size + 1) 129 z64 _ rfl (Blk.rowH hzz _) Try.underlying129 rfl (by kernel_rfl)) rfl ?_; exact RbP.no hres'.out (Z := List.replicate 64 0) List.length_replicate rfl (rowBelow hbw6'.out.1 (Nat.le_succ _) z64)
        have hok := symbR_ok hnp (by rw [hsz, hBl'.out, Int.toNat_natCast]; omega); rw [hsz, Int.toNat_natCast] at hok; obtain ⟨a4, r4, s4⟩ := cut_lh (P := Try.prog) Try.underlying35 sizeI64 hsB.out.1 (q : Int) ((q : Int) + sz) (by omega) (by omega) (by omega) sz (c2 - q) (by omega) (by omega); obtain ⟨a5, r5, s5, in5⟩ := sub_l (P := Try.prog) Try.underlying35 sizeI64 hsB.out.1 ((q : Int) + sz) (by omega) (by omega) (n2 - (q + sz)) (c2 - (q + sz)) (by omega) (by omega); rw [Int.toNat_natCast, Nat.mul_one, Nat.mul_one, show ((ints .i64 (L.drop k)).drop q).take sz = ints .i64 (((L.drop k).drop q).take sz) by unfold ints; simp only [List.map_take, List.map_drop]] at s4; rw [show ((q : Int) + sz).toNat = q + sz by omega, Nat.mul_one, show (ints .i64 (L.drop k)).drop (q + sz) = ints .i64 ((L.drop k).drop (q + sz)) by unfold ints; simp only [List.map_drop]] at s5; have hB4 : BitL (((L.drop k).drop q).take sz) := ((hL'.out.drop k).drop q).take sz; have HM := fun W hb => rnumber_any a4 sz (c2 - q) _ W (s4.mono (w' := W) hb) hB4 (by omega); obtain ⟨V, hV⟩ : ∃ V, numL (((L.drop k).drop q).take sz) = V := ⟨_, rfl⟩; rw [hV] at hok HM
        have hVb : 0 ≤ V ∧ V < 65536 := by
          have h1 := numL_bound _ hB4; have hlen : (((L.drop k).drop q).take sz).length ≤ 15 := by rw [List.length_take]; omega
          have h2 : (2 : Int) ^ (((L.drop k).drop q).take sz).length ≤ 2 ^ 15 := by exact_mod_cast Nat.pow_le_pow_right (by decide : 0 < 2) hlen
          rw [hV] at h1
          omega
        have hAC : ((min l.length 1 : Nat) : Int) = 0 := by have := hml.out; omega
        rw [hAC] at hok; obtain ⟨W7, hW7⟩ : ∃ W, w6.setCell ⟨wr.heap.size + 1, 1, none⟩ (.int .i64 y) = W := ⟨_, rfl⟩; have b7 := b11.set 1 (.int .i64 y); have hbt7 := (But.refl (wr.heap.size + 1) w6).set 1 (.int .i64 y); rw [hW7] at b7 hbt7; have hw1 : w.heap.size ≤ wr.heap.size + 1 := by have := hbw.out.1.size; omega
        have hw2 : W1.heap.size ≤ wr.heap.size + 1 := by have := hbw.out.2.size; omega
        have hog : (Value.slice ar 0 cr).ownBlock ≠ some (wr.heap.size + 1) := fun e => by have := (hown.out.lt _ e).2; omega
        have hbw7 := And.intro (hbw6'.out.1.trans (hbt7.below hw1 hbw6'.out.1.size)) (hbw6'.out.2.trans (hbt7.below hw2 hbw6'.out.2.size)); have own7 := own_but hown6'.out hbt7 hog; have HM7 := HM W7 hbw7.1; have e1 : w6.cell? ⟨wr.heap.size + 1, 1, none⟩ = some (.int .i64 0) := b11.cell rfl; have f1 := b11.frozen 1; have hm64 : 0 ≤ 64 := by have := hfm'.out; omega
        have hqs : q + sz ≤ n2 := by omega
        have hyw : Wf y := by unfold Wf; omega
        clear hnp hbad y0 y255 z3 z4 hsz b11 hbt7 HM; have in5 := in_trans in5 hsB.out.2; have in5' := Lib.hid in5; have hok' := Lib.hid hok; have s4' := Lib.hid s4; have s5' := Lib.hid s5; have hB4' := Lib.hid hB4; have hV' := Lib.hid hV; have hAC' := Lib.hid hAC; have hW7' := Lib.hid hW7; have b7' := Lib.hid b7; have hw1' := Lib.hid hw1; have hw2' := Lib.hid hw2; have hog' := Lib.hid hog; have hbw7' := Lib.hid hbw7; have own7' := Lib.hid own7; have HM7' := Lib.hid HM7; have hyw' := Lib.hid hyw; clear in5 hok s4 s5 hB4 hV hAC hW7 b7 hw1 hw2 hog hbw7 own7 HM7 hyw
        go_upto_region 12 with fail
        rw [hW7'.out]; clear e1 f1
        go_wp2_with fail
        refine HM7'.out.mono ?_; rintro e w8 ⟨rfl, hb8⟩; have b8 := b7'.out.late hb8; have own8 := own_later own7'.out hb8; have hbw8 := And.intro (hbw7'.out.1.trans (hb8.mono hbw7'.out.1.size)) (hbw7'.out.2.trans (hb8.mono hbw7'.out.2.size)); have e2 : w8.cell? ⟨wr.heap.size + 1, 2, none⟩ = some (.int .i64 0) := b8.cell rfl; have e3 : w8.cell? ⟨wr.heap.size + 1, 3, none⟩ = some (.int .i64 0) := b8.cell rfl; have f2 := b8.frozen 2; have f3 := b8.frozen 3; obtain ⟨W9, hW9⟩ : ∃ W, (w8.setCell ⟨wr.heap.size + 1, 2, none⟩ (.int .i64 V)).setCell ⟨wr.heap.size + 1, 3, none⟩ (.int .i64 sz) = W := ⟨_, rfl⟩; have b9 := (b8.set 2 (.int .i64 V)).set 3 (.int .i64 (sz : Int)); have hbt9 := ((But.refl (wr.heap.size + 1) w8).set 2 (.int .i64 V)).set 3 (.int .i64 (sz : Int)); rw [hW9] at b9 hbt9; have hbw9 := And.intro (hbw8.1.trans (hbt9.below hw1'.out hbw8.1.size)) (hbw8.2.trans (hbt9.below hw2'.out hbw8.2.size)); have own9 := own_but own8 hbt9 hog'.out; clear hb8 hbt9 b8 own8 hbw8; have b9' := Lib.hid b9; have hbw9' := Lib.hid hbw9; have own9' := Lib.hid own9; have hW9' := Lib.hid hW9; clear b9 hbw9 own9 hW9
        go_upto_region 13 with fail
        rw [hW9'.out]; clear e2 e3 f2 f3; have e0 : W9.cell? ⟨wr.heap.size + 1, 0, none⟩ = some (.int .i64 0) := b9'.out.cell rfl; have e1 : W9.cell? ⟨wr.heap.size + 1, 1, none⟩ = some (.int .i64 y) := b9'.out.cell rfl; have e2 : W9.cell? ⟨wr.heap.size + 1, 2, none⟩ = some (.int .i64 V) := b9'.out.cell rfl; have e3 : W9.cell? ⟨wr.heap.size + 1, 3, none⟩ = some (.int .i64 (sz : Int)) := b9'.out.cell rfl; have halE := (Below.refl W9.heap.size W9).alloc (Nat.le_refl _) (.cells #[.int .i64 0, .int .i64 y, .int .i64 V, .int .i64 (sz : Int)] 133); have s6 := Sl.new W9 133 4 1 #[.int .i64 0, .int .i64 y, .int .i64 V, .int .i64 (sz : Int)] (0, 0) (by decide) rfl; have ownE := own_later own9'.out halE; have hbwE := And.intro (hbw9'.out.1.trans (halE.mono hbw9'.out.1.size)) (hbw9'.out.2.trans (halE.mono hbw9'.out.2.size)); have hsE := hbwE.2.size; clear halE; have s6' := Lib.hid s6; have ownE' := Lib.hid ownE; have hbwE' := Lib.hid hbwE; clear s6 ownE hbwE
        go_wp2_with (at_builtin; go_loud (refine wpList_app rfl _ _ 146 rfl W1.heap.size 133 iC _ 4 32 Try.underlying146 hiC hzC0 hzC1 hzC2 rfl (by decide) _ 0 _ rfl ownE'.out (some ⟨W9.heap.size, 0, none⟩) 1 1 _ rfl s6'.out (by simp [Value.oneCell']) (by omega) (by decide) hsE ?_; intro a7 c7 wA hoA hbA hgA; have HoA := Lib.hid hoA; have HbA := Lib.hid (And.intro (hbwE'.out.1.trans (hbA.mono s1'.out)) (hbwE'.out.2.trans hbA)); clear hoA hbA hgA))
        have ownA : wA.ownsRow W1.heap.size 133 4 (.slice a7 1 c7) 1 (codC (l ++ [(0, y, V, (sz : Int))])) := by rw [codC_snoc]; exact HoA.out
        have hlA : (l ++ [((0 : Int), y, V, (sz : Int))]).length = 1 := by rw [List.length_append, ← hml.out]; rfl
        have hwA : ∀ x ∈ l ++ [((0 : Int), y, V, (sz : Int))], ∀ z ∈ cdL x, Wf z := fun x hx z hz => by
          rcases List.mem_append.1 hx with hx | hx
          · exact hlw.out x hx z hz
          · rw [List.mem_singleton.1 hx] at hz
            simp only [cdL, List.mem_cons, List.not_mem_nil, or_false] at hz
            rcases hz with rfl | rfl | rfl | rfl
            · unfold Wf; omega
            · exact hyw'.out
            · unfold Wf; omega
            · unfold Wf; omega
        have HB := rblock11_any a7 1 c7 _ last wA (Sl.of_own ownA).1 hlA hwA (by omega) hlast'.out; have hrun2 := fun er h => blkR_err (p := p) (last := last) (f := f') (l := l) (B := L.drop k) (e := er) hok'.out h; have hrun3 := fun q h => blkR_ok (p := p) (last := last) (f := f') (l := l) (B := L.drop k) (b := q) hok'.out h; rw [← hrun.out] at hrun2 hrun3; have hsh := @blockS_short (l ++ [((0 : Int), y, V, (sz : Int))]) last; have her := fun er => @blockS_er (l ++ [((0 : Int), y, V, (sz : Int))]) last er; have hbk := fun q => @blockS_ok (l ++ [((0 : Int), y, V, (sz : Int))]) last q; obtain ⟨R, hR⟩ : ∃ R, blockS (l ++ [((0 : Int), y, V, (sz : Int))]) last = R := ⟨_, rfl⟩; rw [hR] at HB hrun2 hrun3 hsh her hbk; rw [hlA] at hsh; have hdd : (L.drop k).drop (q + sz) = L.drop (k + (q + sz)) := by rw [List.drop_drop]
        have s5 := s5'.out; rw [hdd] at s5 hrun2 hrun3; clear HoA e0 e1 e2 e3 hsE s5'; have ownA' := Lib.hid ownA; have hlA' := Lib.hid hlA; have hwA' := Lib.hid hwA; have HB' := Lib.hid HB; have hrun2' := Lib.hid hrun2; have hrun3' := Lib.hid hrun3; have hsh' := Lib.hid hsh; have her' := Lib.hid her; have hbk' := Lib.hid hbk; have hR' := Lib.hid hR; have hdd' := Lib.hid hdd; have s5' := Lib.hid s5; clear ownA hlA hwA HB hrun2 hrun3 hsh her hbk hR hdd s5; refine HB'.out.mono ?_; rintro e wB ⟨rfl, hbB⟩; have hbwB := And.intro (HbA.out.1.trans (hbB.mono HbA.out.1.size)) (HbA.out.2.trans (hbB.mono HbA.out.2.size)); have ownB := own_later ownA'.out hbB; clear hbB
        cases R with
        | error er =>
          have her0 := her'.out er rfl; have halC := (Below.refl wB.heap.size wB).alloc (Nat.le_refl _) (.cells z64 129); obtain ⟨wC, hwC⟩ : ∃ W, wB.alloc (.cells z64 129) = W := ⟨_, rfl⟩; rw [hwC] at halC; have hbwC' := Lib.hid (And.intro (hbwB.1.trans (halC.mono hbwB.1.size)) (hbwB.2.trans (halC.mono hbwB.2.size))); have ownC := own_later ownB halC; have her1 : (er == 0) = false := by simpa using her0
          unfold blkV; simp only []; clear halC hbwB ownB her0; have hwC' := Lib.hid hwC; have ownC' := Lib.hid ownC; clear hwC ownC
          go_upto_region 16 with (refine wpList_store_row rfl 129 (.tmp 15) (.tmp 75) rfl wB.heap.size z64 rfl rfl 129 _ (heap_new _ _) (by kernel_rfl) (by first | rfl | kernel_rfl) (by kernel_rfl) ?_)
          rw [setRow_alloc, hwC'.out]
          by_cases h3 : er = 3
          · subst h3
            have hr2 := hrun2'.out 3 rfl; have hsh3 := hsh'.out rfl; rw [if_pos rfl] at hr2; have hm2 : f' + 1 = 65 := by have := hfm'.out; omega
            have hk2 : n2 - (q + sz) + (k + (q + sz)) = ln := by have := hnk'.out; omega
            have hf1 : 1 ≤ f' := by omega
            have hr2' := Lib.hid hr2; have hm2' := Lib.hid hm2; have hk2' := Lib.hid hk2; have hf1' := Lib.hid hf1; have hsh3' := Lib.hid hsh3; clear hr2 hm2 hk2 hf1 hsh3
            go_wp2
            go_roundw
            case rel => exact ⟨k + (q + sz), f', 1, n2 - (q + sz), c2 - (q + sz), c7, a5, a7, _, hm2'.out, hf1'.out, hk2'.out, rfl, rfl, Lib.hid hlA'.out.symm, hr2', Lib.hid ⟨s5'.out, in5'.out⟩, ownC', hwA', hbwC'⟩
            case measure => simp [sliceLen]; omega
          · have hres := hrun2'.out er rfl
            rw [if_neg h3] at hres; have h31 : (er != 3) = true := by simpa using h3
            clear h3; have hres' := Lib.hid hres; clear hres; have hzz := bZ'.out.late hbwC'.out.2
            go_wp2_with (refine wpList_store_row rfl 129 (.tmp 6) (.tmp 88) rfl (w.heap.size + 1) z64 rfl rfl 129 _ hzz (by kernel_rfl) rfl (by kernel_rfl) ?_)
            go_wp2
            refine bodyPost_ret (results_blk_tmp2 rfl _ _ (w.heap.size + 1) 129 z64 _ rfl (Blk.rowH hzz _) Try.underlying129 rfl (by kernel_rfl)) rfl ?_; exact RbP.no hres'.out (Z := List.replicate 64 0) List.length_replicate rfl (rowBelow hbwC'.out.1 (Nat.le_succ _) z64)
        | ok v =>
          obtain ⟨b, u⟩ := v; obtain ⟨h64, hwfb⟩ := hbk'.out (b, u) rfl; have hr3 := hrun3'.out (b, u) rfl; simp only at h64 hwfb hr3
          have hb0 : Wf (b.getD 0 0) := by
            have hm : b.getD 0 0 ∈ b := by
              rw [List.getD_eq_getElem?_getD, List.getElem?_eq_getElem (by omega)]; exact List.getElem_mem _
            exact wf_bd (hwfb _ hm)
          have HSz := fun W => rsize11_any (b.getD 0 0) W hb0; obtain ⟨SZ, hSZ⟩ : ∃ S, sizeS (b.getD 0 0) = S := ⟨_, rfl⟩; rw [hSZ] at HSz hr3; obtain ⟨A2, hA2⟩ : ∃ A, (ints .i64 b).toArray = A := ⟨_, rfl⟩; have hA2s : A2.size = 64 := by rw [← hA2]; exact ints_size h64
          have hone : A2.all (·.oneCell') = true := by rw [← hA2]; exact ints_one'
          have hbi : (ints .i64 b).length = 64 := by rw [ints_len]; exact h64
          have halC := (Below.refl wB.heap.size wB).alloc (Nat.le_refl _) (.cells A2 129); have bC := Blk.new wB 129 A2; obtain ⟨wC, hwC⟩ : ∃ W, wB.alloc (.cells A2 129) = W := ⟨_, rfl⟩; obtain ⟨gC, hgC⟩ : ∃ g, wB.heap.size = g := ⟨_, rfl⟩; rw [hwC] at halC; rw [hwC, hgC] at bC; have hbwC := And.intro (hbwB.1.trans (halC.mono hbwB.1.size)) (hbwB.2.trans (halC.mono hbwB.2.size))
          have hg6 : gC ≠ w.heap.size + 1 := by
            have h1 := (bZ'.out).lt; have h2 := hbwB.2.size
            omega
          have hDq := (Below.refl wC.heap.size wC).drew; obtain ⟨wD, hwD⟩ : ∃ W, wC.drew = W := ⟨_, rfl⟩; rw [hwD] at hDq; have hbwD := And.intro (hbwC.1.trans (hDq.mono hbwC.1.size)) (hbwC.2.trans (hDq.mono hbwC.2.size)); obtain ⟨Ty, ff, hnn2, hpr, hsurj⟩ := pr_worlds (fun W => Blk W gC 129 A2) wC bC; have bD := bC.late hDq; have HS := Lib.hid (hsurj wD bD); have HS2 := Lib.hid (hsurj (wD.setRow (w.heap.size + 1) A2) (bD.but (but_rowH (b := w.heap.size + 1) wD A2) hg6)); have z0 : ∀ s, (ff s).cell? ⟨gC, 0, none⟩ = some (.int .i64 (b.getD 0 0)) := fun s => (hpr s).cell (by rw [← hA2, List.getElem?_toArray]; exact ints_get (by omega))
          have z1 : ∀ W, (∃ u, W = ff u) → ∀ j v, (ints .i64 b)[j]? = some v → W.cell? ⟨gC, 0 + j, none⟩ = some v := fun W hW j v hv => by
            obtain ⟨u, rfl⟩ := hW; exact (hpr u).cell (by rw [Nat.zero_add, ← hA2, List.getElem?_toArray]; exact hv)
          have bZD := bZ'.out.late hbwD.2; have hfin := rowBelow hbwD.1 (g := w.heap.size + 1) (Nat.le_succ _) A2; unfold blkV; simp only []; rw [hA2]; clear halC hbwB ownB hbwC bC hDq hpr hsurj bD hg6 hwfb hb0; have hwC' := Lib.hid hwC; have hgC' := Lib.hid hgC; have hwD' := Lib.hid hwD; have hA2' := Lib.hid hA2; have hA2s' := Lib.hid hA2s; have hone' := Lib.hid hone; have hbi' := Lib.hid hbi; have z1' := Lib.hid z1; have bZD' := Lib.hid bZD; have hfin' := Lib.hid hfin; have HSz' := Lib.hid HSz; have hr3' := Lib.hid hr3; have h64' := Lib.hid h64; clear hwC hgC hwD hA2 hA2s hone hbi z1 bZD hfin HSz hr3 h64
          go_upto_region 16 with (refine wpList_store_row rfl 129 (.tmp 15) (.tmp 75) rfl wB.heap.size A2 rfl rfl 129 _ (heap_new _ _) (by rw [hA2s'.out]; exact infoB64) (by rw [hA2s'.out]; rfl) hone'.out ?_)
          rw [setRow_alloc, hwC'.out, hgC'.out]
          go_upto_region 17 with fail
          by_cases hS0 : SZ < 0
          · have hres := hr3'.out
            rw [if_pos hS0] at hres; have hS1 : ¬ 0 ≤ SZ := by omega
            have hS2 : decide (0 ≤ SZ) = false := decide_eq_false hS1; have hSZ' := Lib.hid hSZ; clear hS0 hSZ; have hres' := Lib.hid hres; clear hres; refine held_begin (S := fun W => ∃ s, W = ff s) (by kernel_rfl) 9 rfl ?_; rw [hwD'.out]; refine held_take [0, 1, 2, 3] 5 (by kernel_rfl) (fun d _ _ _ _ h => by cases d <;> exact h) (by kernel_rfl) (by kernel_rfl) (by kernel_rfl) HS.out ?_; simp only [pickL, List.map_cons, List.map_nil, List.getD_cons_succ, List.getD_cons_zero]; refine wpQuiet_load_at rfl 129 (.tmp 15) rfl gC 0 rfl (ints .i64 b) A2 hA2'.out _ z1'.out Try.underlying129 rfl 64 infoB64 hbi'.out ?_; simp only [Act.put, List.setIfInBounds_toArray, List.set_cons_succ, List.set_cons_zero]
            iterate 3 (go_big_quiet_step (fail))
            refine wpQuiet_nil ?_; refine held_one 4 4 (by kernel_rfl) (by kernel_rfl) ?_; simp only [pickL, List.map_cons, List.map_nil, List.getD_cons_succ, List.getD_cons_zero]
            go_wp2_with fail
            refine (HSz'.out _).mono ?_; rintro e wq ⟨rfl, rfl⟩
            go_wp2_with fail
            refine Mid.mk ⟨HS.out, ?_⟩; refine held_take [5] 3 (by kernel_rfl) (fun d _ _ _ _ h => by cases d <;> exact h) (by kernel_rfl) (by kernel_rfl) (by kernel_rfl) HS.out ?_; simp only [pickL, List.map_cons, List.map_nil, List.getD_cons_succ, List.getD_cons_zero]
            iterate 1 (go_big_quiet_step (fail))
            refine wpQuiet_nil ?_; refine held_one 6 2 (by kernel_rfl) (by kernel_rfl) ?_; simp only [pickL, List.map_cons, List.map_nil, List.getD_cons_succ, List.getD_cons_zero]
            go_wp2_with (refine wpList_store_row rfl 129 (.tmp 6) (.tmp 80) rfl (w.heap.size + 1) A2 rfl rfl 129 _ bZD'.out (by rw [hA2s'.out]; exact infoB64) (by rw [hA2s'.out]; rfl) hone'.out ?_)
            refine Mid.mk ⟨HS2.out, ?_⟩; refine held_one 7 1 (by kernel_rfl) (by kernel_rfl) ?_; simp only [pickL, List.map_cons, List.map_nil, List.getD_cons_succ, List.getD_cons_zero]
            go_wp2_with fail
            refine Mid.mk ⟨HS2.out, ?_⟩; refine held_one 8 0 (by kernel_rfl) (by kernel_rfl) ?_; simp only [pickL, List.map_cons, List.map_nil, List.getD_cons_succ, List.getD_cons_zero]
            go_wp2_with fail
            refine Mid.mk ⟨HS2.out, ?_⟩; refine held_last (by kernel_rfl) ?_
            go_wp2
            refine bodyPost_ret (results_blk_tmp2 rfl _ _ (w.heap.size + 1) 129 A2 _ rfl (Blk.rowH bZD'.out A2) Try.underlying129 rfl (by rw [hA2s'.out]; exact infoB64)) rfl ?_; exact RbP.no hres'.out h64'.out (by rw [hA2'.out]; rfl) hfin'.out
          · have hres := hr3'.out
            rw [if_neg hS0] at hres; have hS1 : 0 ≤ SZ := by omega
            have hS2 : decide (0 ≤ SZ) = true := decide_eq_true hS1; have hSZ' := Lib.hid hSZ; clear hS0 hSZ; have hres' := Lib.hid hres; clear hres; refine held_begin (S := fun W => ∃ s, W = ff s) (by kernel_rfl) 9 rfl ?_; rw [hwD'.out]; refine held_take [0, 1, 2, 3] 5 (by kernel_rfl) (fun d _ _ _ _ h => by cases d <;> exact h) (by kernel_rfl) (by kernel_rfl) (by kernel_rfl) HS.out ?_; simp only [pickL, List.map_cons, List.map_nil, List.getD_cons_succ, List.getD_cons_zero]; refine wpQuiet_load_at rfl 129 (.tmp 15) rfl gC 0 rfl (ints .i64 b) A2 hA2'.out _ z1'.out Try.underlying129 rfl 64 infoB64 hbi'.out ?_; simp only [Act.put, List.setIfInBounds_toArray, List.set_cons_succ, List.set_cons_zero]
            iterate 3 (go_big_quiet_step (fail))
            refine wpQuiet_nil ?_; refine held_one 4 4 (by kernel_rfl) (by kernel_rfl) ?_; simp only [pickL, List.map_cons, List.map_nil, List.getD_cons_succ, List.getD_cons_zero]
            go_wp2_with fail
            refine (HSz'.out _).mono ?_; rintro e wq ⟨rfl, rfl⟩
            go_wp2_with fail
            refine Mid.mk ⟨HS.out, ?_⟩; refine held_take [5] 3 (by kernel_rfl) (fun d _ _ _ _ h => by cases d <;> exact h) (by kernel_rfl) (by kernel_rfl) (by kernel_rfl) HS.out ?_; simp only [pickL, List.map_cons, List.map_nil, List.getD_cons_succ, List.getD_cons_zero]
            iterate 1 (go_big_quiet_step (fail))
            refine wpQuiet_nil ?_; refine held_one 6 2 (by kernel_rfl) (by kernel_rfl) ?_; simp only [pickL, List.map_cons, List.map_nil, List.getD_cons_succ, List.getD_cons_zero]
            go_wp2_with (refine wpList_store_row rfl 129 (.tmp 6) (.tmp 80) rfl (w.heap.size + 1) A2 rfl rfl 129 _ bZD'.out (by rw [hA2s'.out]; exact infoB64) (by rw [hA2s'.out]; rfl) hone'.out ?_)
            refine Mid.mk ⟨HS2.out, ?_⟩; refine held_one 7 1 (by kernel_rfl) (by kernel_rfl) ?_; simp only [pickL, List.map_cons, List.map_nil, List.getD_cons_succ, List.getD_cons_zero]
            go_wp2_with fail
            refine Mid.mk ⟨HS2.out, ?_⟩; refine held_one 8 0 (by kernel_rfl) (by kernel_rfl) ?_; simp only [pickL, List.map_cons, List.map_nil, List.getD_cons_succ, List.getD_cons_zero]
            go_wp2_with fail
            refine Mid.mk ⟨HS2.out, ?_⟩; refine held_last (by kernel_rfl) ?_
            go_wp2
            refine bodyPost_ret (results_blk_tmp2 rfl _ _ (w.heap.size + 1) 129 A2 _ rfl (Blk.rowH bZD'.out A2) Try.underlying129 rfl (by rw [hA2s'.out]; exact infoB64)) rfl ?_; exact RbP.yes hres'.out (by rw [hA2'.out]; rfl) h64'.out s5'.out (by have := hnk'.out; omega) (by rw [hSZ'.out]; exact hS1) in5'.out hfin'.out
    · have hne : wr.heap.size + 1 ≠ wr.heap.size := by omega
      have k33 := k33'.out; have b104 := Blk.rowH b103'.out H2; have b114 := b11'.out.but (but_rowH (b := wr.heap.size) W3 H2) hne; have hb4 := rowBelow hb3'.out (g := wr.heap.size) (Nat.le_refl _) H2; obtain ⟨W4, hW4⟩ : ∃ W, W3.setRow wr.heap.size H2 = W := ⟨_, rfl⟩; rw [hW4] at b104 b114 hb4; have b10 := b104.set_other (Ne.symm hne) 0 (.int .i64 1); have b11 : Blk (W4.setCell ⟨wr.heap.size + 1, 0, none⟩ (.int .i64 1)) (wr.heap.size + 1) 133 #[.int .i64 1, .int .i64 0, .int .i64 0, .int .i64 0] := b114.set 0 (.int .i64 1); have hbr := hb4.setCell (p := ⟨wr.heap.size + 1, 0, none⟩) (Nat.le_succ _) (.int .i64 1); have e0 : W4.cell? ⟨wr.heap.size + 1, 0, none⟩ = some (.int .i64 0) := b114.cell rfl; have f0 := b114.frozen 0; obtain ⟨W5, hW5⟩ : ∃ W, W4.setCell ⟨wr.heap.size + 1, 0, none⟩ (.int .i64 1) = W := ⟨_, rfl⟩; rw [hW5] at b10 b11 hbr; have hl0 := hm0; clear k33' b104 b114 hb4 hne; have hW4' := Lib.hid hW4; have hW5' := Lib.hid hW5; have b10' := Lib.hid b10; have b11' := Lib.hid b11; have hbr' := Lib.hid hbr; clear hW4 hW5 b10 b11 hbr
      go_upto_region 6 with (first
        | (refine wpList_load_at rfl 45 (.tmp 24) rfl w.heap.size 19 rfl (hufC p.2.2.2) H2 hH2'.out _ k33 Try.underlying45 rfl 17 infoH17 hl2'.out ?_)
        | (refine wpList_store_row rfl 45 (.tmp 10) (.tmp 25) rfl wr.heap.size H2 rfl rfl 45 H1 b103'.out (by rw [hs2'.out]; exact infoH17) (by rw [hs1'.out, hs2'.out]) ho2'.out ?_))
      rw [hW4'.out]; clear k33
      go_upto_region 7 with fail
      rw [hW5'.out]; clear e0 f0 b103'; have hbr := hbr'.out; have b10 := b10'.out; have b11 := b11'.out; clear b10' b11' hbr'; have hbWW := And.intro (hbw.out.1.trans (hbr.mono hbw.out.1.size)) (hbw.out.2.trans (hbr.mono hbw.out.2.size)); have HN := N2'.out W5 hbWW.1 hsB.out.1 (hL'.out.drop k); have hnp : nextP p (min l.length 1) (L.drop k) = nextS p.2.2.2.1.1 p.2.2.2.1.2 (L.drop k) := (by unfold nextP; rw [if_neg (by have := hml.out; omega)]); have hownW := own_later hown.out hbr; obtain ⟨f', rfl⟩ : ∃ f', f = f' + 1 := ⟨f - 1, by omega⟩; obtain ⟨NX, hNX⟩ : ∃ o, nextS p.2.2.2.1.1 p.2.2.2.1.2 (L.drop k) = o := ⟨_, rfl⟩; rw [hNX] at HN hnp; have hBl := hsB.out.1.ilen; have hle2 := hsB.out.1.le; have hn2 : n2 ≤ 100000 := by have := hln; omega
      have fH : ∀ j v, (hufC p.2.2.2)[j]? = some v → (W5).cell? ⟨wr.heap.size, 0 + j, none⟩ = some v := fun j v hv => b10.cell (by rw [← hH2'.out, Nat.zero_add, List.getElem?_toArray]; exact hv); clear hbr; have b11' := Lib.hid b11; have hbWW' := Lib.hid hbWW; have HN' := Lib.hid HN; have hownW' := Lib.hid hownW; have hBl' := Lib.hid hBl; have hNX' := Lib.hid hNX; have fH' := Lib.hid fH; have b10' := Lib.hid b10; have hfm' := Lib.hid hfm; have hnk' := Lib.hid hnk; have hl0' := Lib.hid hl0; have hf' := Lib.hid hf; clear b11 hbWW HN hownW hBl hNX fH b10 hfm hnk hl0 hf
      go_wp2_with (refine wpList_load_at rfl 45 (.tmp 10) rfl wr.heap.size 0 rfl (hufC p.2.2.2) H2 hH2'.out _ fH'.out Try.underlying45 rfl 17 infoH17 hl2'.out ?_)
      refine HN'.out.mono ?_; rintro e w6 ⟨rfl, hb6⟩; have hbw6' := Lib.hid (And.intro (hbWW'.out.1.trans (hb6.mono hbWW'.out.1.size)) (hbWW'.out.2.trans (hb6.mono hbWW'.out.2.size))); have b11 := b11'.out.late hb6; have hown6' := Lib.hid (own_later hownW'.out hb6); unfold nextV; clear hb6 b10' fH' HN' hownW' b11'
      cases NX with
      | none =>
        have hres : blkR p last 65 [] L = none := hrun.out.trans (blkR_none (symbR_none hnp)); simp only [Option.map_none, Option.getD_none, Int.natCast_zero]; clear hnp b11; have hres' := Lib.hid hres; clear hres; have hzz := bZ'.out.late hbw6'.out.2
        go_wp2_with (refine wpList_store_row rfl 129 (.tmp 6) (.tmp 49) rfl (w.heap.size + 1) z64 rfl rfl 129 _ hzz (by kernel_rfl) rfl (by kernel_rfl) ?_)
        go_wp2
        refine bodyPost_ret (results_blk_tmp2 rfl _ _ (w.heap.size + 1) 129 z64 _ rfl (Blk.rowH hzz _) Try.underlying129 rfl (by kernel_rfl)) rfl ?_; exact RbP.no hres'.out (Z := List.replicate 64 0) List.length_replicate rfl (rowBelow hbw6'.out.1 (Nat.le_succ _) z64)
      | some v =>
        obtain ⟨y, q⟩ := v; simp only [Option.map_some, Option.getD_some]; obtain ⟨hq1, hq16, hql, hqx⟩ := nextS_le hm2'.out hNX'.out; obtain ⟨y0, y255⟩ := nextS_sym hm2'.out hNX'.out; obtain ⟨z1, z2, z3, z4, zz⟩ := sixteen y0 y255; clear z2 zz hqx; obtain ⟨sz, hsz⟩ : ∃ sz : Nat, y % 16 = sz := ⟨(y % 16).toNat, by omega⟩; rw [hBl'.out] at hql; have hsz15 : sz ≤ 15 := by omega
        rw [hsz] at z1; have hbad := fun h => hrun.out.trans (blkR_none (f := f') (l := l) (last := last) (symbR_bad hnp h)); rw [hsz, hBl'.out, Int.toNat_natCast] at hbad
        by_cases d1 : (11 : Int) < sz
        · have hres := hbad (.inl (by omega))
          clear hnp b11 hbad y0 y255 z3 z4 hsz hsz15; have hres' := Lib.hid hres; clear hres; have hzz := bZ'.out.late hbw6'.out.2
          go_wp2_with (refine wpList_store_row rfl 129 (.tmp 6) (.tmp 49) rfl (w.heap.size + 1) z64 rfl rfl 129 _ hzz (by kernel_rfl) rfl (by kernel_rfl) ?_)
          go_wp2
          refine bodyPost_ret (results_blk_tmp2 rfl _ _ (w.heap.size + 1) 129 z64 _ rfl (Blk.rowH hzz _) Try.underlying129 rfl (by kernel_rfl)) rfl ?_; exact RbP.no hres'.out (Z := List.replicate 64 0) List.length_replicate rfl (rowBelow hbw6'.out.1 (Nat.le_succ _) z64)
        by_cases d2 : (n2 : Int) < (q : Int) + sz
        · have hres := hbad (.inr (by omega))
          clear hnp b11 hbad y0 y255 z3 z4 hsz; have hres' := Lib.hid hres; clear hres; have hzz := bZ'.out.late hbw6'.out.2
          go_wp2_with (refine wpList_store_row rfl 129 (.tmp 6) (.tmp 49) rfl (w.heap.size + 1) z64 rfl rfl 129 _ hzz (by kernel_rfl) rfl (by kernel_rfl) ?_)
          go_wp2
          refine bodyPost_ret (results_blk_tmp2 rfl _ _ (w.heap.size + 1) 129 z64 _ rfl (Blk.rowH hzz _) Try.underlying129 rfl (by kernel_rfl)) rfl ?_; exact RbP.no hres'.out (Z := List.replicate 64 0) List.length_replicate rfl (rowBelow hbw6'.out.1 (Nat.le_succ _) z64)
        have hok := symbR_ok hnp (by rw [hsz, hBl'.out, Int.toNat_natCast]; omega); rw [hsz, Int.toNat_natCast] at hok; obtain ⟨a4, r4, s4⟩ := cut_lh (P := Try.prog) Try.underlying35 sizeI64 hsB.out.1 (q : Int) ((q : Int) + sz) (by omega) (by omega) (by omega) sz (c2 - q) (by omega) (by omega); obtain ⟨a5, r5, s5, in5⟩ := sub_l (P := Try.prog) Try.underlying35 sizeI64 hsB.out.1 ((q : Int) + sz) (by omega) (by omega) (n2 - (q + sz)) (c2 - (q + sz)) (by omega) (by omega); rw [Int.toNat_natCast, Nat.mul_one, Nat.mul_one, show ((ints .i64 (L.drop k)).drop q).take sz = ints .i64 (((L.drop k).drop q).take sz) by unfold ints; simp only [List.map_take, List.map_drop]] at s4; rw [show ((q : Int) + sz).toNat = q + sz by omega, Nat.mul_one, show (ints .i64 (L.drop k)).drop (q + sz) = ints .i64 ((L.drop k).drop (q + sz)) by unfold ints; simp only [List.map_drop]] at s5; have hB4 : BitL (((L.drop k).drop q).take sz) := ((hL'.out.drop k).drop q).take sz; have HM := fun W hb => rnumber_any a4 sz (c2 - q) _ W (s4.mono (w' := W) hb) hB4 (by omega); obtain ⟨V, hV⟩ : ∃ V, numL (((L.drop k).drop q).take sz) = V := ⟨_, rfl⟩; rw [hV] at hok HM
        have hVb : 0 ≤ V ∧ V < 65536 := by
          have h1 := numL_bound _ hB4; have hlen : (((L.drop k).drop q).take sz).length ≤ 15 := by rw [List.length_take]; omega
          have h2 : (2 : Int) ^ (((L.drop k).drop q).take sz).length ≤ 2 ^ 15 := by exact_mod_cast Nat.pow_le_pow_right (by decide : 0 < 2) hlen
          rw [hV] at h1
          omega
        have hAC : ((min l.length 1 : Nat) : Int) = 1 := by have := hml.out; omega
        rw [hAC] at hok; obtain ⟨W7, hW7⟩ : ∃ W, w6.setCell ⟨wr.heap.size + 1, 1, none⟩ (.int .i64 y) = W := ⟨_, rfl⟩; have b7 := b11.set 1 (.int .i64 y); have hbt7 := (But.refl (wr.heap.size + 1) w6).set 1 (.int .i64 y); rw [hW7] at b7 hbt7; have hw1 : w.heap.size ≤ wr.heap.size + 1 := by have := hbw.out.1.size; omega
        have hw2 : W1.heap.size ≤ wr.heap.size + 1 := by have := hbw.out.2.size; omega
        have hog : (Value.slice ar m cr).ownBlock ≠ some (wr.heap.size + 1) := fun e => by have := (hown.out.lt _ e).2; omega
        have hbw7 := And.intro (hbw6'.out.1.trans (hbt7.below hw1 hbw6'.out.1.size)) (hbw6'.out.2.trans (hbt7.below hw2 hbw6'.out.2.size)); have own7 := own_but hown6'.out hbt7 hog; have HM7 := HM W7 hbw7.1; have e1 : w6.cell? ⟨wr.heap.size + 1, 1, none⟩ = some (.int .i64 0) := b11.cell rfl; have f1 := b11.frozen 1; have hm64 : m ≤ 64 := by have := hfm'.out; omega
        have hqs : q + sz ≤ n2 := by omega
        have hyw : Wf y := by unfold Wf; omega
        clear hnp hbad y0 y255 z3 z4 hsz b11 hbt7 HM; have in5 := in_trans in5 hsB.out.2; have in5' := Lib.hid in5; have hok' := Lib.hid hok; have s4' := Lib.hid s4; have s5' := Lib.hid s5; have hB4' := Lib.hid hB4; have hV' := Lib.hid hV; have hAC' := Lib.hid hAC; have hW7' := Lib.hid hW7; have b7' := Lib.hid b7; have hw1' := Lib.hid hw1; have hw2' := Lib.hid hw2; have hog' := Lib.hid hog; have hbw7' := Lib.hid hbw7; have own7' := Lib.hid own7; have HM7' := Lib.hid HM7; have hyw' := Lib.hid hyw; clear in5 hok s4 s5 hB4 hV hAC hW7 b7 hw1 hw2 hog hbw7 own7 HM7 hyw
        go_upto_region 12 with fail
        rw [hW7'.out]; clear e1 f1
        go_wp2_with fail
        refine HM7'.out.mono ?_; rintro e w8 ⟨rfl, hb8⟩; have b8 := b7'.out.late hb8; have own8 := own_later own7'.out hb8; have hbw8 := And.intro (hbw7'.out.1.trans (hb8.mono hbw7'.out.1.size)) (hbw7'.out.2.trans (hb8.mono hbw7'.out.2.size)); have e2 : w8.cell? ⟨wr.heap.size + 1, 2, none⟩ = some (.int .i64 0) := b8.cell rfl; have e3 : w8.cell? ⟨wr.heap.size + 1, 3, none⟩ = some (.int .i64 0) := b8.cell rfl; have f2 := b8.frozen 2; have f3 := b8.frozen 3; obtain ⟨W9, hW9⟩ : ∃ W, (w8.setCell ⟨wr.heap.size + 1, 2, none⟩ (.int .i64 V)).setCell ⟨wr.heap.size + 1, 3, none⟩ (.int .i64 sz) = W := ⟨_, rfl⟩; have b9 := (b8.set 2 (.int .i64 V)).set 3 (.int .i64 (sz : Int)); have hbt9 := ((But.refl (wr.heap.size + 1) w8).set 2 (.int .i64 V)).set 3 (.int .i64 (sz : Int)); rw [hW9] at b9 hbt9; have hbw9 := And.intro (hbw8.1.trans (hbt9.below hw1'.out hbw8.1.size)) (hbw8.2.trans (hbt9.below hw2'.out hbw8.2.size)); have own9 := own_but own8 hbt9 hog'.out; clear hb8 hbt9 b8 own8 hbw8; have b9' := Lib.hid b9; have hbw9' := Lib.hid hbw9; have own9' := Lib.hid own9; have hW9' := Lib.hid hW9; clear b9 hbw9 own9 hW9
        go_upto_region 13 with fail
        rw [hW9'.out]; clear e2 e3 f2 f3; have e0 : W9.cell? ⟨wr.heap.size + 1, 0, none⟩ = some (.int .i64 1) := b9'.out.cell rfl; have e1 : W9.cell? ⟨wr.heap.size + 1, 1, none⟩ = some (.int .i64 y) := b9'.out.cell rfl; have e2 : W9.cell? ⟨wr.heap.size + 1, 2, none⟩ = some (.int .i64 V) := b9'.out.cell rfl; have e3 : W9.cell? ⟨wr.heap.size + 1, 3, none⟩ = some (.int .i64 (sz : Int)) := b9'.out.cell rfl; have halE := (Below.refl W9.heap.size W9).alloc (Nat.le_refl _) (.cells #[.int .i64 1, .int .i64 y, .int .i64 V, .int .i64 (sz : Int)] 133); have s6 := Sl.new W9 133 4 1 #[.int .i64 1, .int .i64 y, .int .i64 V, .int .i64 (sz : Int)] (0, 0) (by decide) rfl; have ownE := own_later own9'.out halE; have hbwE := And.intro (hbw9'.out.1.trans (halE.mono hbw9'.out.1.size)) (hbw9'.out.2.trans (halE.mono hbw9'.out.2.size)); have hsE := hbwE.2.size; clear halE; have s6' := Lib.hid s6; have ownE' := Lib.hid ownE; have hbwE' := Lib.hid hbwE; clear s6 ownE hbwE
        go_wp2_with (at_builtin; go_loud (refine wpList_app rfl _ _ 146 rfl W1.heap.size 133 iC _ 4 32 Try.underlying146 hiC hzC0 hzC1 hzC2 rfl (by decide) _ m _ rfl ownE'.out (some ⟨W9.heap.size, 0, none⟩) 1 1 _ rfl s6'.out (by simp [Value.oneCell']) (by omega) (by decide) hsE ?_; intro a7 c7 wA hoA hbA hgA; have HoA := Lib.hid hoA; have HbA := Lib.hid (And.intro (hbwE'.out.1.trans (hbA.mono s1'.out)) (hbwE'.out.2.trans hbA)); clear hoA hbA hgA))
        have ownA : wA.ownsRow W1.heap.size 133 4 (.slice a7 (m + 1) c7) (m + 1) (codC (l ++ [(1, y, V, (sz : Int))])) := by rw [codC_snoc]; exact HoA.out
        have hlA : (l ++ [((1 : Int), y, V, (sz : Int))]).length = (m + 1) := by rw [List.length_append, ← hml.out]; rfl
        have hwA : ∀ x ∈ l ++ [((1 : Int), y, V, (sz : Int))], ∀ z ∈ cdL x, Wf z := fun x hx z hz => by
          rcases List.mem_append.1 hx with hx | hx
          · exact hlw.out x hx z hz
          · rw [List.mem_singleton.1 hx] at hz
            simp only [cdL, List.mem_cons, List.not_mem_nil, or_false] at hz
            rcases hz with rfl | rfl | rfl | rfl
            · unfold Wf; omega
            · exact hyw'.out
            · unfold Wf; omega
            · unfold Wf; omega
        have HB := rblock11_any a7 (m + 1) c7 _ last wA (Sl.of_own ownA).1 hlA hwA (by omega) hlast'.out; have hrun2 := fun er h => blkR_err (p := p) (last := last) (f := f') (l := l) (B := L.drop k) (e := er) hok'.out h; have hrun3 := fun q h => blkR_ok (p := p) (last := last) (f := f') (l := l) (B := L.drop k) (b := q) hok'.out h; rw [← hrun.out] at hrun2 hrun3; have hsh := @blockS_short (l ++ [((1 : Int), y, V, (sz : Int))]) last; have her := fun er => @blockS_er (l ++ [((1 : Int), y, V, (sz : Int))]) last er; have hbk := fun q => @blockS_ok (l ++ [((1 : Int), y, V, (sz : Int))]) last q; obtain ⟨R, hR⟩ : ∃ R, blockS (l ++ [((1 : Int), y, V, (sz : Int))]) last = R := ⟨_, rfl⟩; rw [hR] at HB hrun2 hrun3 hsh her hbk; rw [hlA] at hsh; have hdd : (L.drop k).drop (q + sz) = L.drop (k + (q + sz)) := by rw [List.drop_drop]
        have s5 := s5'.out; rw [hdd] at s5 hrun2 hrun3; clear HoA e0 e1 e2 e3 hsE s5'; have ownA' := Lib.hid ownA; have hlA' := Lib.hid hlA; have hwA' := Lib.hid hwA; have HB' := Lib.hid HB; have hrun2' := Lib.hid hrun2; have hrun3' := Lib.hid hrun3; have hsh' := Lib.hid hsh; have her' := Lib.hid her; have hbk' := Lib.hid hbk; have hR' := Lib.hid hR; have hdd' := Lib.hid hdd; have s5' := Lib.hid s5; clear ownA hlA hwA HB hrun2 hrun3 hsh her hbk hR hdd s5; refine HB'.out.mono ?_; rintro e wB ⟨rfl, hbB⟩; have hbwB := And.intro (HbA.out.1.trans (hbB.mono HbA.out.1.size)) (HbA.out.2.trans (hbB.mono HbA.out.2.size)); have ownB := own_later ownA'.out hbB; clear hbB
        cases R with
        | error er =>
          have her0 := her'.out er rfl; have halC := (Below.refl wB.heap.size wB).alloc (Nat.le_refl _) (.cells z64 129); obtain ⟨wC, hwC⟩ : ∃ W, wB.alloc (.cells z64 129) = W := ⟨_, rfl⟩; rw [hwC] at halC; have hbwC' := Lib.hid (And.intro (hbwB.1.trans (halC.mono hbwB.1.size)) (hbwB.2.trans (halC.mono hbwB.2.size))); have ownC := own_later ownB halC; have her1 : (er == 0) = false := by simpa using her0
          unfold blkV; simp only []; clear halC hbwB ownB her0; have hwC' := Lib.hid hwC; have ownC' := Lib.hid ownC; clear hwC ownC
          go_upto_region 16 with (refine wpList_store_row rfl 129 (.tmp 15) (.tmp 75) rfl wB.heap.size z64 rfl rfl 129 _ (heap_new _ _) (by kernel_rfl) (by first | rfl | kernel_rfl) (by kernel_rfl) ?_)
          rw [setRow_alloc, hwC'.out]
          by_cases h3 : er = 3
          · subst h3
            have hr2 := hrun2'.out 3 rfl; have hsh3 := hsh'.out rfl; rw [if_pos rfl] at hr2; have hm2 : f' + (m + 1) = 65 := by have := hfm'.out; omega
            have hk2 : n2 - (q + sz) + (k + (q + sz)) = ln := by have := hnk'.out; omega
            have hf1 : 1 ≤ f' := by omega
            have hr2' := Lib.hid hr2; have hm2' := Lib.hid hm2; have hk2' := Lib.hid hk2; have hf1' := Lib.hid hf1; have hsh3' := Lib.hid hsh3; clear hr2 hm2 hk2 hf1 hsh3
            go_wp2
            go_roundw
            case rel => exact ⟨k + (q + sz), f', (m + 1), n2 - (q + sz), c2 - (q + sz), c7, a5, a7, _, hm2'.out, hf1'.out, hk2'.out, rfl, rfl, Lib.hid hlA'.out.symm, hr2', Lib.hid ⟨s5'.out, in5'.out⟩, ownC', hwA', hbwC'⟩
            case measure => simp [sliceLen]; omega
          · have hres := hrun2'.out er rfl
            rw [if_neg h3] at hres; have h31 : (er != 3) = true := by simpa using h3
            clear h3; have hres' := Lib.hid hres; clear hres; have hzz := bZ'.out.late hbwC'.out.2
            go_wp2_with (refine wpList_store_row rfl 129 (.tmp 6) (.tmp 88) rfl (w.heap.size + 1) z64 rfl rfl 129 _ hzz (by kernel_rfl) rfl (by kernel_rfl) ?_)
            go_wp2
            refine bodyPost_ret (results_blk_tmp2 rfl _ _ (w.heap.size + 1) 129 z64 _ rfl (Blk.rowH hzz _) Try.underlying129 rfl (by kernel_rfl)) rfl ?_; exact RbP.no hres'.out (Z := List.replicate 64 0) List.length_replicate rfl (rowBelow hbwC'.out.1 (Nat.le_succ _) z64)
        | ok v =>
          obtain ⟨b, u⟩ := v; obtain ⟨h64, hwfb⟩ := hbk'.out (b, u) rfl; have hr3 := hrun3'.out (b, u) rfl; simp only at h64 hwfb hr3
          have hb0 : Wf (b.getD 0 0) := by
            have hm : b.getD 0 0 ∈ b := by
              rw [List.getD_eq_getElem?_getD, List.getElem?_eq_getElem (by omega)]; exact List.getElem_mem _
            exact wf_bd (hwfb _ hm)
          have HSz := fun W => rsize11_any (b.getD 0 0) W hb0; obtain ⟨SZ, hSZ⟩ : ∃ S, sizeS (b.getD 0 0) = S := ⟨_, rfl⟩; rw [hSZ] at HSz hr3; obtain ⟨A2, hA2⟩ : ∃ A, (ints .i64 b).toArray = A := ⟨_, rfl⟩; have hA2s : A2.size = 64 := by rw [← hA2]; exact ints_size h64
          have hone : A2.all (·.oneCell') = true := by rw [← hA2]; exact ints_one'
          have hbi : (ints .i64 b).length = 64 := by rw [ints_len]; exact h64
          have halC := (Below.refl wB.heap.size wB).alloc (Nat.le_refl _) (.cells A2 129); have bC := Blk.new wB 129 A2; obtain ⟨wC, hwC⟩ : ∃ W, wB.alloc (.cells A2 129) = W := ⟨_, rfl⟩; obtain ⟨gC, hgC⟩ : ∃ g, wB.heap.size = g := ⟨_, rfl⟩; rw [hwC] at halC; rw [hwC, hgC] at bC; have hbwC := And.intro (hbwB.1.trans (halC.mono hbwB.1.size)) (hbwB.2.trans (halC.mono hbwB.2.size))
          have hg6 : gC ≠ w.heap.size + 1 := by
            have h1 := (bZ'.out).lt; have h2 := hbwB.2.size
            omega
          have hDq := (Below.refl wC.heap.size wC).drew; obtain ⟨wD, hwD⟩ : ∃ W, wC.drew = W := ⟨_, rfl⟩; rw [hwD] at hDq; have hbwD := And.intro (hbwC.1.trans (hDq.mono hbwC.1.size)) (hbwC.2.trans (hDq.mono hbwC.2.size)); obtain ⟨Ty, ff, hnn2, hpr, hsurj⟩ := pr_worlds (fun W => Blk W gC 129 A2) wC bC; have bD := bC.late hDq; have HS := Lib.hid (hsurj wD bD); have HS2 := Lib.hid (hsurj (wD.setRow (w.heap.size + 1) A2) (bD.but (but_rowH (b := w.heap.size + 1) wD A2) hg6)); have z0 : ∀ s, (ff s).cell? ⟨gC, 0, none⟩ = some (.int .i64 (b.getD 0 0)) := fun s => (hpr s).cell (by rw [← hA2, List.getElem?_toArray]; exact ints_get (by omega))
          have z1 : ∀ W, (∃ u, W = ff u) → ∀ j v, (ints .i64 b)[j]? = some v → W.cell? ⟨gC, 0 + j, none⟩ = some v := fun W hW j v hv => by
            obtain ⟨u, rfl⟩ := hW; exact (hpr u).cell (by rw [Nat.zero_add, ← hA2, List.getElem?_toArray]; exact hv)
          have bZD := bZ'.out.late hbwD.2; have hfin := rowBelow hbwD.1 (g := w.heap.size + 1) (Nat.le_succ _) A2; unfold blkV; simp only []; rw [hA2]; clear halC hbwB ownB hbwC bC hDq hpr hsurj bD hg6 hwfb hb0; have hwC' := Lib.hid hwC; have hgC' := Lib.hid hgC; have hwD' := Lib.hid hwD; have hA2' := Lib.hid hA2; have hA2s' := Lib.hid hA2s; have hone' := Lib.hid hone; have hbi' := Lib.hid hbi; have z1' := Lib.hid z1; have bZD' := Lib.hid bZD; have hfin' := Lib.hid hfin; have HSz' := Lib.hid HSz; have hr3' := Lib.hid hr3; have h64' := Lib.hid h64; clear hwC hgC hwD hA2 hA2s hone hbi z1 bZD hfin HSz hr3 h64
          go_upto_region 16 with (refine wpList_store_row rfl 129 (.tmp 15) (.tmp 75) rfl wB.heap.size A2 rfl rfl 129 _ (heap_new _ _) (by rw [hA2s'.out]; exact infoB64) (by rw [hA2s'.out]; rfl) hone'.out ?_)
          rw [setRow_alloc, hwC'.out, hgC'.out]
          go_upto_region 17 with fail
          by_cases hS0 : SZ < 0
          · have hres := hr3'.out
            rw [if_pos hS0] at hres; have hS1 : ¬ 0 ≤ SZ := by omega
            have hS2 : decide (0 ≤ SZ) = false := decide_eq_false hS1; have hSZ' := Lib.hid hSZ; clear hS0 hSZ; have hres' := Lib.hid hres; clear hres; refine held_begin (S := fun W => ∃ s, W = ff s) (by kernel_rfl) 9 rfl ?_; rw [hwD'.out]; refine held_take [0, 1, 2, 3] 5 (by kernel_rfl) (fun d _ _ _ _ h => by cases d <;> exact h) (by kernel_rfl) (by kernel_rfl) (by kernel_rfl) HS.out ?_; simp only [pickL, List.map_cons, List.map_nil, List.getD_cons_succ, List.getD_cons_zero]; refine wpQuiet_load_at rfl 129 (.tmp 15) rfl gC 0 rfl (ints .i64 b) A2 hA2'.out _ z1'.out Try.underlying129 rfl 64 infoB64 hbi'.out ?_; simp only [Act.put, List.setIfInBounds_toArray, List.set_cons_succ, List.set_cons_zero]
            iterate 3 (go_big_quiet_step (fail))
            refine wpQuiet_nil ?_; refine held_one 4 4 (by kernel_rfl) (by kernel_rfl) ?_; simp only [pickL, List.map_cons, List.map_nil, List.getD_cons_succ, List.getD_cons_zero]
            go_wp2_with fail
            refine (HSz'.out _).mono ?_; rintro e wq ⟨rfl, rfl⟩
            go_wp2_with fail
            refine Mid.mk ⟨HS.out, ?_⟩; refine held_take [5] 3 (by kernel_rfl) (fun d _ _ _ _ h => by cases d <;> exact h) (by kernel_rfl) (by kernel_rfl) (by kernel_rfl) HS.out ?_; simp only [pickL, List.map_cons, List.map_nil, List.getD_cons_succ, List.getD_cons_zero]
            iterate 1 (go_big_quiet_step (fail))
            refine wpQuiet_nil ?_; refine held_one 6 2 (by kernel_rfl) (by kernel_rfl) ?_; simp only [pickL, List.map_cons, List.map_nil, List.getD_cons_succ, List.getD_cons_zero]
            go_wp2_with (refine wpList_store_row rfl 129 (.tmp 6) (.tmp 80) rfl (w.heap.size + 1) A2 rfl rfl 129 _ bZD'.out (by rw [hA2s'.out]; exact infoB64) (by rw [hA2s'.out]; rfl) hone'.out ?_)
            refine Mid.mk ⟨HS2.out, ?_⟩; refine held_one 7 1 (by kernel_rfl) (by kernel_rfl) ?_; simp only [pickL, List.map_cons, List.map_nil, List.getD_cons_succ, List.getD_cons_zero]
            go_wp2_with fail
            refine Mid.mk ⟨HS2.out, ?_⟩; refine held_one 8 0 (by kernel_rfl) (by kernel_rfl) ?_; simp only [pickL, List.map_cons, List.map_nil, List.getD_cons_succ, List.getD_cons_zero]
            go_wp2_with fail
            refine Mid.mk ⟨HS2.out, ?_⟩; refine held_last (by kernel_rfl) ?_
            go_wp2
            refine bodyPost_ret (results_blk_tmp2 rfl _ _ (w.heap.size + 1) 129 A2 _ rfl (Blk.rowH bZD'.out A2) Try.underlying129 rfl (by rw [hA2s'.out]; exact infoB64)) rfl ?_; exact RbP.no hres'.out h64'.out (by rw [hA2'.out]; rfl) hfin'.out
          · have hres := hr3'.out
            rw [if_neg hS0] at hres; have hS1 : 0 ≤ SZ := by omega
            have hS2 : decide (0 ≤ SZ) = true := decide_eq_true hS1; have hSZ' := Lib.hid hSZ; clear hS0 hSZ; have hres' := Lib.hid hres; clear hres; refine held_begin (S := fun W => ∃ s, W = ff s) (by kernel_rfl) 9 rfl ?_; rw [hwD'.out]; refine held_take [0, 1, 2, 3] 5 (by kernel_rfl) (fun d _ _ _ _ h => by cases d <;> exact h) (by kernel_rfl) (by kernel_rfl) (by kernel_rfl) HS.out ?_; simp only [pickL, List.map_cons, List.map_nil, List.getD_cons_succ, List.getD_cons_zero]; refine wpQuiet_load_at rfl 129 (.tmp 15) rfl gC 0 rfl (ints .i64 b) A2 hA2'.out _ z1'.out Try.underlying129 rfl 64 infoB64 hbi'.out ?_; simp only [Act.put, List.setIfInBounds_toArray, List.set_cons_succ, List.set_cons_zero]
            iterate 3 (go_big_quiet_step (fail))
            refine wpQuiet_nil ?_; refine held_one 4 4 (by kernel_rfl) (by kernel_rfl) ?_; simp only [pickL, List.map_cons, List.map_nil, List.getD_cons_succ, List.getD_cons_zero]
            go_wp2_with fail
            refine (HSz'.out _).mono ?_; rintro e wq ⟨rfl, rfl⟩
            go_wp2_with fail
            refine Mid.mk ⟨HS.out, ?_⟩; refine held_take [5] 3 (by kernel_rfl) (fun d _ _ _ _ h => by cases d <;> exact h) (by kernel_rfl) (by kernel_rfl) (by kernel_rfl) HS.out ?_; simp only [pickL, List.map_cons, List.map_nil, List.getD_cons_succ, List.getD_cons_zero]
            iterate 1 (go_big_quiet_step (fail))
            refine wpQuiet_nil ?_; refine held_one 6 2 (by kernel_rfl) (by kernel_rfl) ?_; simp only [pickL, List.map_cons, List.map_nil, List.getD_cons_succ, List.getD_cons_zero]
            go_wp2_with (refine wpList_store_row rfl 129 (.tmp 6) (.tmp 80) rfl (w.heap.size + 1) A2 rfl rfl 129 _ bZD'.out (by rw [hA2s'.out]; exact infoB64) (by rw [hA2s'.out]; rfl) hone'.out ?_)
            refine Mid.mk ⟨HS2.out, ?_⟩; refine held_one 7 1 (by kernel_rfl) (by kernel_rfl) ?_; simp only [pickL, List.map_cons, List.map_nil, List.getD_cons_succ, List.getD_cons_zero]
            go_wp2_with fail
            refine Mid.mk ⟨HS2.out, ?_⟩; refine held_one 8 0 (by kernel_rfl) (by kernel_rfl) ?_; simp only [pickL, List.map_cons, List.map_nil, List.getD_cons_succ, List.getD_cons_zero]
            go_wp2_with fail
            refine Mid.mk ⟨HS2.out, ?_⟩; refine held_last (by kernel_rfl) ?_
            go_wp2
            refine bodyPost_ret (results_blk_tmp2 rfl _ _ (w.heap.size + 1) 129 A2 _ rfl (Blk.rowH bZD'.out A2) Try.underlying129 rfl (by rw [hA2s'.out]; exact infoB64)) rfl ?_; exact RbP.yes hres'.out (by rw [hA2'.out]; rfl) h64'.out s5'.out (by have := hnk'.out; omega) (by rw [hSZ'.out]; exact hS1) in5'.out hfin'.out
end Go.Proofs.Ytpjopeojeglogaa
