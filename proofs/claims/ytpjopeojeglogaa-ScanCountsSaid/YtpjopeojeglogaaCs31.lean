/- Chapter 12: blocks read: the program's scan.Read. -/
import Derived.Test.YtpjopeojeglogaaCs30
namespace Go.Proofs.Ytpjopeojeglogaa
open Go.RowKit Tt
set_option linter.unusedVariables false
set_option linter.unusedSimpArgs false

theorem infoBz : (Try.prog.info? 129).map (fun i => (i.zero, i.size, i.bytes)) = some (some (.agg z64), 64, 512) := by kernel_rfl
theorem infoRow : (Try.prog.info? 126).map (fun i => (i.zero, i.size, i.bytes)) = some (some (.slice none 0 0), 1, 24) := by kernel_rfl
theorem zeroB_take (s : ScT) (k : Nat) (p : PtM) (h : s.ps[k]? = some p) : (zeroB s).take (k + 1) = (zeroB s).take k ++ [List.replicate (s.ax.toNat * p.1.toNat * s.dn.toNat * p.2.1.toNat) (List.replicate 64 0)] := by
  unfold zeroB; rw [List.take_add_one, List.getElem?_map, h]
  rfl
def RdPost (s : ScT) (bb : List Int) (w : World) (e : Ending) (w' : World) : Prop :=
  ((mayS s = false ∧ e = .returned (.tuple #[.slice none 0 0, .int .i64 0, .int .i64 1])) ∨ (mayS s = true ∧ ((∃ n : Nat, readS s bb = .error n ∧ e = .returned (.tuple #[.slice none 0 0, .int .i64 n, .int .i64 2])) ∨ ∃ bl a n c bs, readS s bb = .ok bl ∧ e = .returned (.tuple #[.slice a n c, .int .i64 0, .int .i64 0]) ∧ BpsR w' a n c bs ∧ bs.map (·.1) = bl))) ∧ Below w.heap.size w w'
theorem RdPost.no {s : ScT} {bb : List Int} {w w' : World} {e : Ending} (hm : mayS s = false) (he : e = .returned (.tuple #[.slice none 0 0, .int .i64 0, .int .i64 1])) (hb : Below w.heap.size w w') : RdPost s bb w e w' := ⟨.inl ⟨hm, he⟩, hb⟩
theorem RdPost.err {s : ScT} {bb : List Int} {w w' : World} {e : Ending} {n : Nat} (hm : mayS s = true) (hr : readS s bb = .error n) (he : e = .returned (.tuple #[.slice none 0 0, .int .i64 n, .int .i64 2])) (hb : Below w.heap.size w w') : RdPost s bb w e w' := ⟨.inr ⟨hm, .inl ⟨n, hr, he⟩⟩, hb⟩
theorem RdPost.ok {s : ScT} {bb : List Int} {w w' : World} {e : Ending} {bl : List (List (List Int))} {a : Option Addr} {n c : Nat} {bs : List BpM} (hm : mayS s = true) (hr : readS s bb = .ok bl) (he : e = .returned (.tuple #[.slice a n c, .int .i64 0, .int .i64 0])) (hbs : BpsR w' a n c bs) (hbl : bs.map (·.1) = bl) (hb : Below w.heap.size w w') : RdPost s bb w e w' := ⟨.inr ⟨hm, .inr ⟨bl, a, n, c, bs, hr, he, hbs, hbl⟩⟩, hb⟩
set_option maxRecDepth 100000 in
set_option maxHeartbeats 8000000 in
theorem read_any (s : ScT) (pa ba : Option Addr) (pn pc bn bc : Nat) (bb : List Int) (w : World) (hs : PtsR w pa pn pc s.ps) (hb : Sl w ba bn bc 1 (ints .u8 bb)) (hbb : Byt bb) (hbn : bn ≤ 1000000) (hba : ∀ x, ba = some x → x.block < w.heap.size) (hw1 : Wf s.ax) (hw2 : Wf s.dn) (hw3 : Wf s.iv) (hpw : ∀ p ∈ s.ps, Wf p.1 ∧ Wf p.2.1) :
    Calls Try.prog 29 #[.agg #[.int .i64 s.ax, .int .i64 s.dn, .slice pa pn pc, .int .i64 s.iv], .slice ba bn bc] w (RdPost s bb w) := by
  obtain ⟨iB, hiB, hzB0, hzB1, hzB2⟩ := info_parts infoBz; obtain ⟨iR, hiR, hzR0, hzR1, hzR2⟩ := info_parts infoRow; obtain ⟨i1, hi, hz0, hz1, hz2⟩ := info_parts infoI; have HM := fun W (h : Below w.heap.size w W) => scmay_any s pa pn pc W (hs.mono h) hw1 hw2 hw3 hpw; have hl := hs.ilen; have hparts := @mayS_parts s; have hT := fun W (h : Below w.heap.size w W) hm => tables_any s pa pn pc W (hs.mono h) hm; obtain ⟨M, hM⟩ : ∃ M, mayS s = M := ⟨_, rfl⟩; rw [hM] at HM hparts hT; have b1 := Blk.new w 24 #[.int .i64 s.ax, .int .i64 s.dn, .slice pa pn pc, .int .i64 s.iv]; have hb1 := (Below.refl w.heap.size w).alloc (Nat.le_refl _) (.cells #[.int .i64 s.ax, .int .i64 s.dn, .slice pa pn pc, .int .i64 s.iv] 24); obtain ⟨W1, hW1⟩ : ∃ W1, w.alloc (.cells #[.int .i64 s.ax, .int .i64 s.dn, .slice pa pn pc, .int .i64 s.iv] 24) = W1 := ⟨_, rfl⟩; rw [hW1] at b1 hb1; have hcs : ∀ W, Blk W w.heap.size 24 #[.int .i64 s.ax, .int .i64 s.dn, .slice pa pn pc, .int .i64 s.iv] → W.cell? ⟨w.heap.size, 0, none⟩ = some (.int .i64 s.ax) ∧ W.cell? ⟨w.heap.size, 1, none⟩ = some (.int .i64 s.dn) ∧ W.cell? ⟨w.heap.size, 2, none⟩ = some (.slice pa pn pc) ∧ W.cell? ⟨w.heap.size, 3, none⟩ = some (.int .i64 s.iv) := fun W b => ⟨b.cell rfl, b.cell rfl, b.cell rfl, b.cell rfl⟩; obtain ⟨k0, k1, k2, k3⟩ := hcs W1 b1; have hs' := Lib.hid hs; have hb' := Lib.hid hb; have hbb' := Lib.hid hbb; have hbn' := Lib.hid hbn; have hba' := Lib.hid hba; have hw1' := Lib.hid hw1; have hw2' := Lib.hid hw2; have hw3' := Lib.hid hw3; have hpw' := Lib.hid hpw; have HM' := Lib.hid HM; have hl' := Lib.hid hl; have hparts' := Lib.hid hparts; have hT' := Lib.hid hT; have b1' := Lib.hid b1; have hb1' := Lib.hid hb1; have hW1' := Lib.hid hW1; have hcs' := Lib.hid hcs; have hM' := Lib.hid hM; clear hs hb hbb hbn hba hw1 hw2 hw3 hpw HM hl hparts hT b1 hb1 hW1 hcs hM
  go_enter Try.func29, Try.ntmps29
  go_upto_region 1 with fail
  rw [hW1'.out]
  go_wp2_with fail
  refine (HM'.out _ hb1'.out).mono ?_; rintro e w2 ⟨rfl, hb2⟩; have hbw2 := hb1'.out.trans (hb2.mono hb1'.out.size); have b2 := b1'.out.late hb2; clear hb2 k0 k1 k2 k3
  cases M with
  | false =>
    have hbw2' := Lib.hid hbw2; clear hbw2
    go_wp2
    go_ret3
    exact RdPost.no hM'.out rfl hbw2'.out
  | true =>
    obtain ⟨htop, hpts, hsum⟩ := hparts'.out rfl; have hT2 := fun W h => hT'.out W h rfl; have hpn4 : pn ≤ 4 := by have := hl'.out; omega
    have hpn1 : 1 ≤ pn := by have := hl'.out; omega
    obtain ⟨a, ha⟩ : ∃ a : Nat, s.ax = a := ⟨s.ax.toNat, by omega⟩; obtain ⟨d, hd⟩ : ∃ d : Nat, s.dn = d := ⟨s.dn.toNat, by omega⟩; have hdr := zeroB_take s; simp only [ha, hd, Int.toNat_natCast] at hdr; have ha512 : a ≤ 512 := by omega
    have hd512 : d ≤ 512 := by omega
    rw [ha, hd] at b2; rw [ha, hd] at hT2; have hcs2 : ∀ W, Blk W w.heap.size 24 #[.int .i64 (a : Int), .int .i64 (d : Int), .slice pa pn pc, .int .i64 s.iv] → W.cell? ⟨w.heap.size, 0, none⟩ = some (.int .i64 (a : Int)) ∧ W.cell? ⟨w.heap.size, 1, none⟩ = some (.int .i64 (d : Int)) ∧ W.cell? ⟨w.heap.size, 2, none⟩ = some (.slice pa pn pc) ∧ W.cell? ⟨w.heap.size, 3, none⟩ = some (.int .i64 s.iv) := fun W b => ⟨b.cell rfl, b.cell rfl, b.cell rfl, b.cell rfl⟩; obtain ⟨k0, k1, k2, k3⟩ := hcs2 w2 b2; clear k0 k1 k3 hT' hparts'; have hbw2' := Lib.hid hbw2; have b2' := Lib.hid b2; have htop' := Lib.hid htop; have hpts' := Lib.hid hpts; have hsum' := Lib.hid hsum; have hT2' := Lib.hid hT2; have ha' := Lib.hid ha; have hd' := Lib.hid hd; have hdr' := Lib.hid hdr; have ha512' := Lib.hid ha512; have hd512' := Lib.hid hd512; have hcs2' := Lib.hid hcs2; clear hbw2 b2 htop hpts hsum hT2 ha hd hdr ha512 hd512 hcs2
    go_wp2
    go_loopw [4, 8, 21] (fun ov _ xv wr => ∃ (k : Nat) (a3 : Option Addr) (c3 : Nat) (L : List (Nat × List (List Int))), k ≤ pn ∧ xv = .int .i64 k ∧ ov = .slice a3 k c3 ∧ Hid (OutM w.heap.size wr a3 k c3 L) ∧ Hid (L.map (·.2) = (zeroB s).take k) ∧ Hid (Blk wr w.heap.size 24 #[.int .i64 (a : Int), .int .i64 (d : Int), .slice pa pn pc, .int .i64 s.iv]) ∧ Hid (Below w.heap.size w wr)) (fun _ _ xv _ => pn - (intOf xv).toNat)
    case atStart => exact ⟨0, none, 0, [], by omega, rfl, rfl, Lib.hid ⟨own_nil _ _ _ _, (fun i x hx => by cases hx), (fun i j x y hx => by cases hx)⟩, Lib.hid rfl, b2', hbw2'⟩
    case round =>
      rename World => wo
      obtain ⟨k, a3, c3, L, hk, rfl, rfl, hout, hlm, hbk, hbel⟩ := hrel
      by_cases hlt : k < pn
      · obtain ⟨p, hp⟩ : ∃ p, s.ps[k]? = some p := ⟨_, List.getElem?_eq_getElem (by rw [hl'.out]; exact hlt)⟩
        obtain ⟨pb, o, hpa, hbbk, f⟩ := (hs'.out.mono hbel.out).elem hp; have hpk := (hs'.out.ok p (List.mem_of_getElem? hp)).mono hbel.out; have hpm := mayPt_bd (hpts'.out k p hp); have hdrk := hdr'.out k p hp; obtain ⟨x, y, hdc, hac⟩ := p; simp only at hpm hdrk; obtain ⟨h, rfl⟩ : ∃ h : Nat, x = h := ⟨x.toNat, by omega⟩; obtain ⟨v, rfl⟩ : ∃ h : Nat, y = h := ⟨y.toNat, by omega⟩; rw [Int.toNat_natCast, Int.toNat_natCast] at hdrk; obtain ⟨x1, x2, z, hz, hze, e1, e2, e3⟩ := whole_steps (h := h) (v := v) ha512'.out hd512'.out (by omega) (by omega)
        have hzz : a * h * d * v = z := by
          rw [← Int.natCast_mul, ← Int.natCast_mul, ← Int.natCast_mul] at hze
          omega
        rw [hzz] at hdrk; clear hpm hze hzz; subst hpa; obtain ⟨B, hB⟩ : ∃ B, (pC ((h : Int), (v : Int), hdc, hac)).toArray = B := ⟨_, rfl⟩; have hcl := pC_len hpk; have hone := pC_one (p := ((h : Int), (v : Int), hdc, hac)); have hB36 : B.size = 36 := by rw [← hB]; simpa using hcl
        rw [hB] at hone; obtain ⟨W2, hW2⟩ : ∃ W2, wo.alloc (.cells B 47) = W2 := ⟨_, rfl⟩; have hal := (Below.refl wo.heap.size wo).alloc (Nat.le_refl _) (.cells B 47); have hqb : Blk W2 wo.heap.size 47 B := by rw [← hW2]; exact Blk.new wo 47 B
        rw [hW2] at hal; have hbw := hbel.out.trans (hal.mono hbel.out.size); obtain ⟨m0, m1, _, _⟩ := pB_cells (p := ((h : Int), (v : Int), hdc, hac)) hpk.dc.len (hB ▸ hqb); have hbk2 := hbk.out.late hal; obtain ⟨k0, k1, k2, k3⟩ := hcs2'.out W2 hbk2; have hout2 := hout.out.late hal; have hal3 := (Below.refl W2.heap.size W2).alloc (Nat.le_refl _) (.cells (flatB (List.replicate z (List.replicate 64 0))).toArray 129); have hb3 := Blk.new W2 129 (flatB (List.replicate z (List.replicate 64 0))).toArray; obtain ⟨W3, hW3⟩ : ∃ W, W2.alloc (.cells (flatB (List.replicate z (List.replicate 64 0))).toArray 129) = W := ⟨_, rfl⟩; rw [hW3] at hal3 hb3; have hal4 := (Below.refl W3.heap.size W3).alloc (Nat.le_refl _) (.cells #[.slice (some ⟨W2.heap.size, 0, none⟩) z z] 126); have s4 := Sl.new W3 126 1 1 #[.slice (some ⟨W2.heap.size, 0, none⟩) z z] (0, 0) (by decide) rfl; have hout4 := (hout2.late hal3).late hal4; have hb4 := hb3.late hal4; have hbk4 := (hbk2.late hal3).late hal4; have hbw4 := (hbw.trans (hal3.mono hbw.size)).trans (hal4.mono (Nat.le_trans hbw.size hal3.size)); have hfresh : ∀ (i : Nat) x, L[i]? = some x → x.1 ≠ W2.heap.size := fun i x hx => by have := (hout2.blk i x hx).2.1.lt; omega
        have hws := hbw4.size; clear hal3 hb3 hal4 hout2 hbk2 hbk hbel hout; have f' := Lib.hid f; have hpk' := Lib.hid hpk; have hB' := Lib.hid hB; have hcl' := Lib.hid hcl; have hp' := Lib.hid hp; have hone' := Lib.hid hone; have hB36' := Lib.hid hB36; have hal' := Lib.hid hal; have hqb' := Lib.hid hqb; have hW2' := Lib.hid hW2; have hbw' := Lib.hid hbw; have hW3' := Lib.hid hW3; have s4' := Lib.hid s4; have hout4' := Lib.hid hout4; have hb4' := Lib.hid hb4; have hbk4' := Lib.hid hbk4; have hbw4' := Lib.hid hbw4; have hfresh' := Lib.hid hfresh; have hdrk' := Lib.hid hdrk; have hlm' := Lib.hid hlm; have hws' := Lib.hid hws; clear f hpk hB hcl hp hone hB36 hal hqb hW2 hbw hW3 s4 hout4 hb4 hbk4 hbw4 hfresh hdrk hlm hws
        go_upto_region 6 with (first
          | (refine wpList_load_at rfl 47 (.tmp 23) rfl pb (o + k * 36) rfl (pC ((h : Int), (v : Int), hdc, hac)) B hB'.out _ f'.out Try.underlying47 rfl 36 infoP hcl'.out ?_)
          | (refine wpList_store_row rfl 47 (.tmp 8) (.tmp 24) rfl wo.heap.size B rfl rfl 47 _ (heap_new _ _) (by rw [hB36'.out]; exact infoP) (by rw [hB36'.out]; rfl) hone'.out ?_))
        rw [setRow_alloc, hW2'.out]; have hmade : madeCells (Value.agg z64).cells (z * 64) = (flatB (List.replicate z (List.replicate 64 0))).toArray := made_flat z
        go_wp2_with (first
          | (at_make; refine wpList_make_rowN _ rfl _ _ 126 rfl 129 iB (.agg z64) Try.underlying126 hiB hzB0 .i64 .i64 z rfl rfl (by rw [hzB2]; omega) (by omega) ?_; rw [hzB1, hmade, hW3'.out])
          | (at_builtin; refine wpList_app3 rfl _ _ 25 rfl w.heap.size 126 iR _ 1 24 Try.underlying25 hiR hzR0 hzR1 hzR2 rfl (by decide) (.slice a3 k c3) k _ rfl hout4'.out.own (some ⟨W3.heap.size, 0, none⟩) 1 1 [.slice (some ⟨W2.heap.size, 0, none⟩) z z] rfl s4'.out (by simp [Value.oneCell']) (by omega) (by decide) hws'.out ?_; intro a5 c5 w5 ho5 hg5 hk5; have Ho5 := Lib.hid ho5; have Hg5 := Lib.hid hg5; have Hk5 := Lib.hid hk5; clear ho5 hg5 hk5))
        clear k0 k1 k2 k3 m0 m1; have hbl5 := Hg5.out; have hmg := Mo.of_grown (S := fun j => (Value.slice a3 k c3).ownBlock = some j) hbl5 fun j hj => hj; have hol := hout4'.out.own.lt
        have hout5 := hout4'.out.snoc (g := W2.heap.size) (l := List.replicate z (List.replicate 64 0)) (Nat.le_trans (Nat.le_refl _) hbw'.out.size) hb4'.out (fun b hb => by
          rw [List.eq_of_mem_replicate hb]; exact ⟨List.length_replicate, fun y hy => by rw [List.eq_of_mem_replicate hy]; rfl⟩) hfresh'.out (by
          have := Ho5.out; unfold obV; rw [List.length_replicate]; exact this) hbl5
        have hbk5 := hbk4'.out.mo hmg (own_neB hout4'.out.own hbk4'.out (by decide)); have hbel5 := hbw4'.out.trans (Mo.below hmg (hbw4'.out.size) fun j hj e => by have := (hol j e).1; omega)
        have hlm5 : List.map (fun x : Nat × List (List Int) => x.2) (L ++ [(W2.heap.size, List.replicate z (List.replicate 64 0))]) = (zeroB s).take (k + 1) := by
          rw [List.map_append, hdrk'.out]; have h1 : List.map (fun x : Nat × List (List Int) => x.2) L = (zeroB s).take k := hlm'.out.out; rw [h1]
          rfl
        clear hmg hol hbl5 Ho5 Hg5 Hk5; have hout5' := Lib.hid hout5; have hbk5' := Lib.hid hbk5; have hbel5' := Lib.hid hbel5; have hlm5' := Lib.hid hlm5; clear hout5 hbk5 hbel5 hlm5
        go_wp2
        go_roundw
        case rel => exact ⟨k + 1, a5, c5, _, by omega, by go_num, rfl, hout5', hlm5', hbk5', hbel5'⟩
        case measure => simp [intOf]; omega
      · have hkn : k = pn := by omega
        subst hkn
        have hlm2 : L.map (·.2) = zeroB s := by
          have h1 := hlm.out; rw [List.take_of_length_le (by unfold zeroB; rw [List.length_map]; have := hl'.out; omega)] at h1; exact h1
        obtain ⟨Ty, ff, hnn, hbelf, hsurj⟩ := later_worlds wo; have hD := (Below.refl wo.heap.size wo).drew; obtain ⟨wD, hwD⟩ : ∃ W, wo.drew = W := ⟨_, rfl⟩; rw [hwD] at hD; have HS := Lib.hid (hsurj wD hD); have y0 := fun s => (hcs2'.out _ (hbk.out.late (hbelf s))).1; have y1 := fun s => (hcs2'.out _ (hbk.out.late (hbelf s))).2.1; have y2 := fun s => (hcs2'.out _ (hbk.out.late (hbelf s))).2.2.1; have y3 := fun s => (hcs2'.out _ (hbk.out.late (hbelf s))).2.2.2; clear hlt; have hlm2' := Lib.hid hlm2; have hwD' := Lib.hid hwD; have hD' := Lib.hid hD; have hbelf' := Lib.hid hbelf; have hsurj' := Lib.hid hsurj; clear hlm2 hwD hD hbelf hsurj
        go_upto_region 8 with fail
        go_cut [9] from 41 to 50 (fun v wx => ∃ (ta : Option Addr) (tc : Nat) (tl : List (Nat × Nat)) (gl rr : Nat), v = .pointer (some ⟨rr, 0, none⟩) ∧ Hid (Below wo.heap.size wo wx) ∧ Hid (Blk wx rr 152 (rdrC s pa k pc ta tc ba bn bc none gl)) ∧ Hid (Blk wx gl 3 (ints .i64 (List.replicate k 0)).toArray) ∧ Hid (wx.ownsRow 0 134 2 (.slice ta k tc) k (tabsC tl)) ∧ Hid (tl.length = k) ∧ Hid (TbsA wx s.ps tl) ∧ Hid (wo.heap.size ≤ gl ∧ wo.heap.size ≤ rr))
        case first =>
          refine held_begin (S := fun W => ∃ s, W = ff s) (by kernel_rfl) 11 rfl ?_; rw [hwD'.out]; refine held_take [0, 1, 3, 4, 5, 6] 5 (by kernel_rfl) (fun d _ _ _ _ h => by cases d <;> exact h) (by kernel_rfl) (by kernel_rfl) (by kernel_rfl) HS.out ?_; simp only [pickL, List.map_cons, List.map_nil, List.getD_cons_succ, List.getD_cons_zero]
          iterate 6 (go_big_quiet_step (fail))
          refine wpQuiet_nil ?_; clear y0 y1 y2 y3; refine held_two 2 7 4 (by kernel_rfl) (by kernel_rfl) ?_ ?_
          · simp only [pickL, List.map_cons, List.map_nil, List.getD_cons_succ, List.getD_cons_zero]
            go_wp2_with fail
            refine (hT2'.out wD (hbel.out.trans (hD'.out.mono hbel.out.size))).mono ?_; rintro e w5 ⟨ta, tc, tl, rfl, hb5, ho5, htl, htb⟩; have hd5 := hD'.out.trans (hb5.mono hD'.out.size); have HS5 := Lib.hid (hsurj'.out w5 hd5); have hal6 := (Below.refl w5.heap.size w5).alloc (Nat.le_refl _) (.cells (ints .i64 (List.replicate k 0)).toArray 3); have lr6 := Blk.new w5 3 (ints .i64 (List.replicate k 0)).toArray; obtain ⟨w6, hw6⟩ : ∃ W, w5.alloc (.cells (ints .i64 (List.replicate k 0)).toArray 3) = W := ⟨_, rfl⟩; rw [hw6] at hal6 lr6; have hd6 := hd5.trans (hal6.mono hd5.size); have to6 := own_later ho5 hal6; have tb6 := htb.late hal6; have HS6 := Lib.hid (hsurj'.out w6 hd6); obtain ⟨gl, hgl⟩ : ∃ g, w5.heap.size = g := ⟨_, rfl⟩; have hgw : wo.heap.size ≤ gl := by rw [← hgl]; exact hd5.size
            rw [hgl] at lr6; clear hb5 ho5 htb hd5 hal6; have lr6' := Lib.hid lr6; have hd6' := Lib.hid hd6; have to6' := Lib.hid to6; have tb6' := Lib.hid tb6; have htl' := Lib.hid htl; have hgw' := Lib.hid hgw; have hw6' := Lib.hid hw6; have hgl' := Lib.hid hgl; clear lr6 hd6 to6 tb6 htl hgw hw6 hgl
            go_wp2_with fail
            refine Mid.mk ⟨HS5.out, ?_⟩; refine held_one 7 3 (by kernel_rfl) (by kernel_rfl) ?_; simp only [pickL, List.map_cons, List.map_nil, List.getD_cons_succ, List.getD_cons_zero]
            go_wp2_with (at_make; refine wpList_make_row _ rfl _ _ 35 rfl 3 i1 (.int .i64 0) Try.underlying35 hi hz0 hz1 rfl .i64 .i64 k rfl rfl (by rw [hz2]; omega) (by omega) ?_; rw [made_ints, hw6'.out, hgl'.out])
            refine Mid.mk ⟨HS6.out, ?_⟩; have hal7 := (Below.refl w6.heap.size w6).alloc (Nat.le_refl _) (.cells #[.int .i64 (a : Int), .int .i64 (d : Int), .slice pa k pc, .int .i64 s.iv, .slice ta k tc, .slice ba bn bc, .pointer none, .slice (some ⟨gl, 0, none⟩) k k] 152); have br7 := Blk.new w6 152 #[.int .i64 (a : Int), .int .i64 (d : Int), .slice pa k pc, .int .i64 s.iv, .slice ta k tc, .slice ba bn bc, .pointer none, .slice (some ⟨gl, 0, none⟩) k k]; obtain ⟨w7, hw7⟩ : ∃ W, w6.alloc (.cells #[.int .i64 (a : Int), .int .i64 (d : Int), .slice pa k pc, .int .i64 s.iv, .slice ta k tc, .slice ba bn bc, .pointer none, .slice (some ⟨gl, 0, none⟩) k k] 152) = W := ⟨_, rfl⟩; rw [hw7] at hal7 br7; have hd7 := hd6'.out.trans (hal7.mono hd6'.out.size); have lr7 := lr6'.out.late hal7; have to7 := own_mono (own_later to6'.out hal7) (Nat.zero_le _); have tb7 := tb6'.out.late hal7; have HS7 := Lib.hid (hsurj'.out w7 hd7); have hrw : wo.heap.size ≤ w6.heap.size := hd6'.out.size; clear hal7; have br7' := Lib.hid br7; have hd7' := Lib.hid hd7; have lr7' := Lib.hid lr7; have to7' := Lib.hid to7; have tb7' := Lib.hid tb7; have hw7' := Lib.hid hw7; have hrw' := Lib.hid hrw; clear br7 hd7 lr7 to7 tb7 hw7 hrw; refine held_one 8 2 (by kernel_rfl) (by kernel_rfl) ?_; simp only [pickL, List.map_cons, List.map_nil, List.getD_cons_succ, List.getD_cons_zero]
            go_wp2_with fail
            refine Mid.mk ⟨HS6.out, ?_⟩; refine held_one 9 1 (by kernel_rfl) (by kernel_rfl) ?_; simp only [pickL, List.map_cons, List.map_nil, List.getD_cons_succ, List.getD_cons_zero]
            go_wp2_with fail
            rw [hw7'.out]; refine Mid.mk ⟨HS7.out, ?_⟩; refine held_one 10 0 (by kernel_rfl) (by kernel_rfl) ?_; simp only [pickL, List.map_cons, List.map_nil, List.getD_cons_succ, List.getD_cons_zero]
            go_wp2_with fail
            refine Mid.mk ⟨HS7.out, ?_⟩; refine held_last (by kernel_rfl) ?_
            try go_wp2
            go_meet
            case rel => exact ⟨ta, tc, tl, gl, w6.heap.size, rfl, hd7', Lib.hid (by unfold rdrC; rw [ha'.out, hd'.out]; exact br7'.out), lr7', to7', htl', tb7', Lib.hid ⟨hgw'.out, hrw'.out⟩⟩
          · simp only [pickL, List.map_cons, List.map_nil, List.getD_cons_succ, List.getD_cons_zero]
            have hal6 := (Below.refl wD.heap.size wD).alloc (Nat.le_refl _) (.cells (ints .i64 (List.replicate k 0)).toArray 3); have lr5 := Blk.new wD 3 (ints .i64 (List.replicate k 0)).toArray; obtain ⟨w5, hw5⟩ : ∃ W, wD.alloc (.cells (ints .i64 (List.replicate k 0)).toArray 3) = W := ⟨_, rfl⟩; rw [hw5] at hal6 lr5; have hd5 := hD'.out.trans (hal6.mono hD'.out.size); have HS5 := Lib.hid (hsurj'.out w5 hd5); have HT5 := hT2'.out w5 (hbel.out.trans (hd5.mono hbel.out.size)); obtain ⟨gl, hgl⟩ : ∃ g, wD.heap.size = g := ⟨_, rfl⟩; have hgw : wo.heap.size ≤ gl := by rw [← hgl]; exact hD'.out.size
            rw [hgl] at lr5; clear hal6; have lr5' := Lib.hid lr5; have hd5' := Lib.hid hd5; have HT5' := Lib.hid HT5; have hgw' := Lib.hid hgw; have hw5' := Lib.hid hw5; have hgl' := Lib.hid hgl; clear lr5 hd5 HT5 hgw hw5 hgl
            go_wp2_with (at_make; refine wpList_make_row _ rfl _ _ 35 rfl 3 i1 (.int .i64 0) Try.underlying35 hi hz0 hz1 rfl .i64 .i64 k rfl rfl (by rw [hz2]; omega) (by omega) ?_; rw [made_ints, hw5'.out, hgl'.out])
            refine Mid.mk ⟨HS5.out, ?_⟩; refine held_one 2 3 (by kernel_rfl) (by kernel_rfl) ?_; simp only [pickL, List.map_cons, List.map_nil, List.getD_cons_succ, List.getD_cons_zero]
            go_wp2_with fail
            refine HT5'.out.mono ?_; rintro e w6 ⟨ta, tc, tl, rfl, hb6, to6, htl, tb6⟩; have hd6 := hd5'.out.trans (hb6.mono hd5'.out.size); have lr6 := lr5'.out.late hb6; have HS6 := Lib.hid (hsurj'.out w6 hd6); clear hb6; have lr6' := Lib.hid lr6; have hd6' := Lib.hid hd6; have to6' := Lib.hid to6; have tb6' := Lib.hid tb6; have htl' := Lib.hid htl; clear lr6 hd6 to6 tb6 htl
            go_wp2_with fail
            refine Mid.mk ⟨HS6.out, ?_⟩; have hal7 := (Below.refl w6.heap.size w6).alloc (Nat.le_refl _) (.cells #[.int .i64 (a : Int), .int .i64 (d : Int), .slice pa k pc, .int .i64 s.iv, .slice ta k tc, .slice ba bn bc, .pointer none, .slice (some ⟨gl, 0, none⟩) k k] 152); have br7 := Blk.new w6 152 #[.int .i64 (a : Int), .int .i64 (d : Int), .slice pa k pc, .int .i64 s.iv, .slice ta k tc, .slice ba bn bc, .pointer none, .slice (some ⟨gl, 0, none⟩) k k]; obtain ⟨w7, hw7⟩ : ∃ W, w6.alloc (.cells #[.int .i64 (a : Int), .int .i64 (d : Int), .slice pa k pc, .int .i64 s.iv, .slice ta k tc, .slice ba bn bc, .pointer none, .slice (some ⟨gl, 0, none⟩) k k] 152) = W := ⟨_, rfl⟩; rw [hw7] at hal7 br7; have hd7 := hd6'.out.trans (hal7.mono hd6'.out.size); have lr7 := lr6'.out.late hal7; have to7 := own_mono (own_later to6'.out hal7) (Nat.zero_le _); have tb7 := tb6'.out.late hal7; have HS7 := Lib.hid (hsurj'.out w7 hd7); have hrw : wo.heap.size ≤ w6.heap.size := hd6'.out.size; clear hal7; have br7' := Lib.hid br7; have hd7' := Lib.hid hd7; have lr7' := Lib.hid lr7; have to7' := Lib.hid to7; have tb7' := Lib.hid tb7; have hw7' := Lib.hid hw7; have hrw' := Lib.hid hrw; clear br7 hd7 lr7 to7 tb7 hw7 hrw; refine held_one 8 2 (by kernel_rfl) (by kernel_rfl) ?_; simp only [pickL, List.map_cons, List.map_nil, List.getD_cons_succ, List.getD_cons_zero]
            go_wp2_with fail
            refine Mid.mk ⟨HS6.out, ?_⟩; refine held_one 9 1 (by kernel_rfl) (by kernel_rfl) ?_; simp only [pickL, List.map_cons, List.map_nil, List.getD_cons_succ, List.getD_cons_zero]
            go_wp2_with fail
            rw [hw7'.out]; refine Mid.mk ⟨HS7.out, ?_⟩; refine held_one 10 0 (by kernel_rfl) (by kernel_rfl) ?_; simp only [pickL, List.map_cons, List.map_nil, List.getD_cons_succ, List.getD_cons_zero]
            go_wp2_with fail
            refine Mid.mk ⟨HS7.out, ?_⟩; refine held_last (by kernel_rfl) ?_
            try go_wp2
            go_meet
            case rel => exact ⟨ta, tc, tl, gl, w6.heap.size, rfl, hd7', Lib.hid (by unfold rdrC; rw [ha'.out, hd'.out]; exact br7'.out), lr7', to7', htl', tb7', Lib.hid ⟨hgw'.out, hrw'.out⟩⟩
        case rest =>
          obtain ⟨ta, tc, tl, gl, rr, rfl, hdc, hrd, hgl, hto, htl, htb, hge⟩ := hcut; have hbel3 := hbel.out.trans (hdc.out.mono hbel.out.size); have hbk3 := hbk.out.late hdc.out; have hK : RdK w wc s pa k pc ta tc tl a3 c3 L := ⟨hout.out.late hdc.out, hto.out, htb.out, by unfold scanA; rw [ha'.out, hd'.out]; exact hbk3, hbel3⟩; have hLlt : ∀ (i : Nat) x, L[i]? = some x → x.1 < wc.heap.size := fun i x hx => (hK.out.blk i x hx).2.1.lt
          have hshape : ∀ (i : Nat) p x, s.ps[i]? = some p → L[i]? = some x → x.2.length = a * p.1.toNat * d * p.2.1.toNat := fun i p x hp hx => by
            have h1 : (L.map (·.2))[i]? = some x.2 := by rw [List.getElem?_map, hx]; rfl
            rw [hlm2'.out] at h1; unfold zeroB at h1; rw [List.getElem?_map, hp] at h1; simp only [Option.map_some, Option.some.injEq, ha'.out, hd'.out, Int.toNat_natCast] at h1; rw [← h1, List.length_replicate]
          have hgew : w.heap.size ≤ gl ∧ w.heap.size ≤ rr := by have := hge.out; have := hbel.out.size; omega
          obtain ⟨N, hN⟩ : ∃ N, a * d = N := ⟨_, rfl⟩; have hN2 : N ≤ 262144 := by rw [← hN]; exact Nat.le_trans (Nat.mul_le_mul ha512'.out hd512'.out) (by omega)
          have eN : IntKind.i64.wrap ((a : Int) * d) = N := by rw [← Int.natCast_mul, hN]; exact wrapN (by omega)
          have hNs : (s.ax * s.dn).toNat = N := by rw [ha'.out, hd'.out, ← Int.natCast_mul, hN]; rfl
          obtain ⟨k0, k1, k2, k3⟩ := hcs2'.out wc hbk3; obtain ⟨zc, hzc⟩ : ∃ z, wc.heap.size = z := ⟨_, rfl⟩; rw [hzc] at hLlt
          have hcs3 : ∀ W, Blk W w.heap.size 24 (scanA s pa k pc) → W.cell? ⟨w.heap.size, 0, none⟩ = some (.int .i64 (a : Int)) ∧ W.cell? ⟨w.heap.size, 1, none⟩ = some (.int .i64 (d : Int)) ∧ W.cell? ⟨w.heap.size, 2, none⟩ = some (.slice pa k pc) ∧ W.cell? ⟨w.heap.size, 3, none⟩ = some (.int .i64 s.iv) := fun W hW => by
            unfold scanA at hW; rw [ha'.out, hd'.out] at hW; exact hcs2'.out W hW
          have hbl0 : Hid (L.map (·.2) = (rd0 s bb).bl) := hlm2'; clear y0 y1 y2 y3 k2 k3 hbel3 hbk3 HS; have hK' := Lib.hid hK; have hLlt' := Lib.hid hLlt; have hshape' := Lib.hid hshape; have hgew' := Lib.hid hgew; have hN' := Lib.hid hN; have hN2' := Lib.hid hN2; have hNs' := Lib.hid hNs; have hzc' := Lib.hid hzc; have hcs3' := Lib.hid hcs3; clear hK hLlt hshape hgew hN hN2 hNs hzc hcs3
          go_wp2
          clear k0 k1
          go_loopw [4, 10, 12, 13, 14, 56] (fun ov _ _ _ _ xv wr => ∃ (n : Nat) (st : RdT) (L : List (Nat × List (List Int))), ov = .slice a3 k c3 ∧ n ≤ N ∧ xv = .int .i64 n ∧ Hid ((List.range n).foldlM (rdU s) (rd0 s bb) = .ok st) ∧ Hid (RdK w wr s pa k pc ta tc tl a3 c3 L) ∧ Hid (L.map (·.2) = st.bl) ∧ Hid (∀ (i : Nat) x, L[i]? = some x → x.1 < zc) ∧ Hid (∀ (i : Nat) p x, s.ps[i]? = some p → L[i]? = some x → x.2.length = a * p.1.toNat * d * p.2.1.toNat) ∧ Hid (n = 0 → st = rd0 s bb ∧ Blk wr rr 152 (rdrC s pa k pc ta tc ba bn bc none gl) ∧ Blk wr gl 3 (ints .i64 (List.replicate k 0)).toArray) ∧ Hid (0 < n → RdG w zc wr rr gl s pa k pc ta tc ba bn st) ∧ Hid (zc ≤ wr.heap.size)) (fun _ _ _ _ _ xv _ => N - (intOf xv).toNat)
          case atStart => exact ⟨0, rd0 s bb, L, rfl, by omega, rfl, Lib.hid rfl, hK', hbl0, hLlt', hshape', Lib.hid (fun _ => ⟨rfl, hrd.out, hgl.out⟩), Lib.hid (fun h => by omega), Lib.hid (Nat.le_of_eq hzc'.out.symm)⟩
          case round =>
            rename World => wr
            obtain ⟨n, st, L, rfl, hn, rfl, hfold, hK, hLm, hLlt, hshape, hzero, hpos, hzw⟩ := hrel
            by_cases hlt : n < N
            · go_upto_region 12 with fail
              go_cut [76] from 59 to 76 (fun v wx => (v = .bool true ∧ Hid (startR s st n = none) ∧ Hid (Below w.heap.size w wx)) ∨ (v = .bool false ∧ ∃ st2, Hid (startR s st n = some st2) ∧ Hid (st2.bl = st.bl) ∧ Hid (RdG w zc wx rr gl s pa k pc ta tc ba bn st2) ∧ Hid (RdK w wx s pa k pc ta tc tl a3 c3 L) ∧ Hid (zc ≤ wx.heap.size)))
              case first =>
                have hpn0 : 0 < k := by omega
                have hn26 : n ≤ 262144 := by have := hN2'.out; omega
                have hiv := htop'.out.2.2.2.2.2.2
                by_cases hn0 : n = 0
                · subst hn0
                  obtain ⟨hst, hbr, hbg⟩ := hzero.out rfl
                  have hap : Apart w wr (fun j => j = rr ∨ j = gl) := fun j hj => by
                    rcases hj with rfl | rfl
                    · exact ⟨hgew'.out.2, _, _, hbr, by decide, by decide, by decide, by decide, by decide⟩
                    · exact ⟨hgew'.out.1, _, _, hbg, by decide, by decide, by decide, by decide, by decide⟩
                  have HB := begin_any rr gl s pa k pc ta tc ba bn bc none (List.replicate k 0) bb wr hbr hbg List.length_replicate hpn0 (hb'.out.mono hK.out.bel) hbb'.out (fun x hx => by have := hba'.out x hx; have := hgew'.out; have := hK.out.bel.size; omega) hbn'.out; have hst1 := @startR_zero s st; clear hbr hbg hlt; have HB' := Lib.hid HB; have hap' := Lib.hid hap; have hst1' := Lib.hid hst1; have hiv' := Lib.hid hiv; have hst' := Lib.hid hst; clear HB hap hst1 hiv hst
                  go_wp2_with fail
                  refine HB'.out.mono ?_; rintro e w3 ⟨hres, hm3⟩; have hK3 := hK.out.mo hm3 hap'.out
                  rcases hres with ⟨hno, rfl⟩ | ⟨R2, rb, a2, n2, c2, D, ra2, rn2, rc2, hyes, rfl, g1, g2, g3, g4, g5, g6, g7⟩
                  · have hfin : startR s st 0 = none := by rw [hst1'.out, hst'.out]; show (beginS bb).map _ = none; rw [hno]; rfl
                    have hb3 := hK3.bel; clear hK3 hm3; have hfin' := Lib.hid hfin; have hb3' := Lib.hid hb3; clear hfin hb3
                    go_wp2
                    go_meet
                    case rel => exact .inl ⟨rfl, hfin', hb3'⟩
                  · have hfin : startR s st 0 = some ⟨st.bl, bitsS D, R2, List.replicate s.ps.length 0⟩ := by rw [hst1'.out, hst'.out]; show (beginS bb).map _ = _; rw [hyes]; rfl
                    have hG : RdG w zc w3 rr gl s pa k pc ta tc ba bn ⟨st.bl, bitsS D, R2, List.replicate s.ps.length 0⟩ := ⟨rb, a2, n2, c2, D, 0, ra2, rn2, rc2, by rw [List.drop_zero], by rw [hl'.out]; exact g1, g2, g4, g6, g3, Nat.le_trans hK.out.bel.size g5, fun x hx => Nat.le_trans hzw.out (g7 x hx)⟩; have HRs := restarts_any a d s.iv pa k pc 0 w3 hiv'.out.1 hiv'.out.2 (by omega); rw [show resS s.iv 0 = false by unfold resS; simp] at HRs; obtain ⟨k0, k1, k2, k3⟩ := hcs3'.out w3 hK3.sc; have hz3 := Nat.le_trans hzw.out hm3.size; clear hm3 g1 g2 g3 g4 g5 g6 g7 hyes; have hfin' := Lib.hid hfin; have hG' := Lib.hid hG; have hK3' := Lib.hid hK3; have HRs' := Lib.hid HRs; have hz3' := Lib.hid hz3; clear hfin hG hK3 HRs hz3
                    go_wp2_with fail
                    refine HRs'.out.mono ?_; rintro e w4 ⟨rfl, hb4⟩; have hG4 := hG'.out.late hb4; have hK4 := hK3'.out.late hb4; have hz4 := Nat.le_trans hz3'.out hb4.size; clear k0 k1 k2 k3 hb4; have hG4' := Lib.hid hG4; have hK4' := Lib.hid hK4; have hz4' := Lib.hid hz4; clear hG4 hK4 hz4
                    go_wp2
                    go_meet
                    case rel => exact .inr ⟨rfl, _, hfin', Lib.hid rfl, hG4', hK4', hz4'⟩
                · have hn0f : ((n : Int) == 0) = false := by simp; omega
                  have hG := hpos.out (by omega); obtain ⟨r, hr⟩ : ∃ r, resS s.iv n = r := ⟨_, rfl⟩; have HRs := restarts_any a d s.iv pa k pc n wr hiv.1 hiv.2 hn26; rw [hr] at HRs; obtain ⟨k0, k1, k2, k3⟩ := hcs3'.out wr hK.out.sc; have hn0n : n ≠ 0 := hn0; clear hlt hn0; have HRs' := Lib.hid HRs; have hG' := Lib.hid hG; have hr' := Lib.hid hr; have hiv' := Lib.hid hiv; have hn0n' := Lib.hid hn0n; clear HRs hG hr hiv hn0n
                  go_wp2_with fail
                  refine HRs'.out.mono ?_; rintro e w3 ⟨rfl, hb3⟩; have hG3 := hG'.out.late hb3; have hK3 := hK.out.late hb3; have hz3 := Nat.le_trans hzw.out hb3.size; clear k0 k1 k2 k3 hb3
                  cases r with
                  | false =>
                    have hfin := startR_no (st := st) hn0n'.out hr'.out; have hG3' := Lib.hid hG3; have hK3' := Lib.hid hK3; have hz3' := Lib.hid hz3; have hfin' := Lib.hid hfin; clear hG3 hK3 hz3 hfin
                    go_wp2
                    go_meet
                    case rel => exact .inr ⟨rfl, _, hfin', Lib.hid rfl, hG3', hK3', hz3'⟩
                  | true =>
                    have hst1 := startR_res (st := st) hn0n'.out hr'.out; obtain ⟨rb, a1, n1, c1, D1, i1, ra1, rn1, rc1, q1, q2, q3, q4, q5, q6, q7, q8⟩ := hG3
                    have hap : Apart w w3 (fun j => j = rr ∨ j = gl) := fun j hj => by
                      rcases hj with rfl | rfl
                      · exact ⟨hgew'.out.2, _, _, q2.rd, by decide, by decide, by decide, by decide, by decide⟩
                      · exact ⟨hgew'.out.1, _, _, q2.lr, by decide, by decide, by decide, by decide, by decide⟩
                    have HA := again_any rr gl rb s pa k pc ta tc ra1 rn1 rc1 st.last a1 n1 c1 D1 i1 n st.rest w3 q2 hpn0 q3 q4 (fun x hx => by
                      obtain ⟨y, hy, e⟩ := q6 x hx; have := hba'.out y hy; have := hgew'.out; have := hK3.bel.size
                      omega) (by have := hbn'.out; omega) hr'.out hiv'.out.2 hn26
                    rw [← q1] at HA; clear q2 q3 q4 q7 q8; have HA' := Lib.hid HA; have hap' := Lib.hid hap; have hst1' := Lib.hid hst1; have hK3' := Lib.hid hK3; have hz3' := Lib.hid hz3; have q1' := Lib.hid q1; have q5' := Lib.hid q5; have q6' := Lib.hid q6; clear HA hap hst1 hK3 hz3 q1 q5 q6
                    go_wp2_with fail
                    refine HA'.out.mono ?_; rintro e w4 ⟨hres, hm4⟩; have hK4 := hK3'.out.mo hm4 hap'.out
                    rcases hres with ⟨hno, rfl⟩ | ⟨R2, rb2, a2, n2, c2, D, ra2, rn2, rc2, hyes, rfl, g1, g2, g3, g4, g5, g6, g7⟩
                    · have hfin : startR s st n = none := by rw [hst1'.out, hno]; rfl
                      have hb4 := hK4.bel; clear hK4 hm4; have hfin' := Lib.hid hfin; have hb4' := Lib.hid hb4; clear hfin hb4
                      go_wp2
                      go_meet
                      case rel => exact .inl ⟨rfl, hfin', hb4'⟩
                    · have hfin : startR s st n = some ⟨st.bl, bitsS D, R2, List.replicate s.ps.length 0⟩ := by rw [hst1'.out, hyes]; rfl
                      have hG4 : RdG w zc w4 rr gl s pa k pc ta tc ba bn ⟨st.bl, bitsS D, R2, List.replicate s.ps.length 0⟩ := ⟨rb2, a2, n2, c2, D, 0, ra2, rn2, rc2, by rw [List.drop_zero], by rw [hl'.out]; exact g1, g2, g4, by have := q5'.out; omega, fun x hx => by
                        obtain ⟨y, hy, e⟩ := g3 x hx; obtain ⟨y2, hy2, e2⟩ := q6'.out y hy; exact ⟨y2, hy2, e2.trans e⟩, Nat.le_trans hK3'.out.bel.size g5, fun x hx => Nat.le_trans hz3'.out (g7 x hx)⟩
                      have hz4 := Nat.le_trans hz3'.out hm4.size; clear hm4 g1 g2 g3 g4 g5 g6 g7 hyes; have hfin' := Lib.hid hfin; have hG4' := Lib.hid hG4; have hK4' := Lib.hid hK4; have hz4' := Lib.hid hz4; clear hfin hG4 hK4 hz4
                      go_wp2
                      go_meet
                      case rel => exact .inr ⟨rfl, _, hfin', Lib.hid rfl, hG4', hK4', hz4'⟩
              case rest =>
                have hN26 : N ≤ 262144 := hN2'.out
                rcases hcut with ⟨rfl, hfin, hb⟩ | ⟨rfl, st2, hst2, hbl2, hG, hK2, hz2⟩
                · have hre := readS_err hNs'.out hfold.out hlt (rdU_none hfin.out)
                  have hre' := Lib.hid hre; clear hre
                  go_wp2
                  go_ret3
                  exact RdPost.err hM'.out hre'.out rfl hb.out
                · obtain ⟨k0, k1, k2, k3⟩ := hcs3'.out wc hK2.out.sc
                  have HU := unit_any s pa k pc n wc (hs'.out.mono hK2.out.bel) hM'.out (by have := hN2'.out; omega); rw [ha'.out, hd'.out, Int.toNat_natCast] at HU; have hstep := rdU_some hst2.out; rw [ha'.out, Int.toNat_natCast] at hstep; obtain ⟨L5, hL5⟩ : ∃ L5, unitS a s.ps n = L5 := ⟨_, rfl⟩; rw [hL5] at HU hstep; have hnlt := hlt; clear hlt hzero hpos; have HU' := Lib.hid HU; have hL5' := Lib.hid hL5; have hstep' := Lib.hid hstep; clear HU hL5 hstep
                  go_wp2_with fail
                  refine HU'.out.mono ?_; rintro e w3 ⟨a5, m5, c5, rfl, hb3, ho3⟩; have hK3 := hK2.out.late hb3; have hG3 := hG.out.late hb3; have hz3 := Nat.le_trans hz2.out hb3.size; have ho30 := own_mono ho3 (Nat.zero_le _)
                  have hlL : L5.length = m5 := by
                    have h1 := (Sl.of_own ho3).1.len; rw [placesC_len] at h1; omega
                  have hm5 : m5 ≤ 64 := by
                    have h1 := unitS_len (a := a) hpts'.out (by have := htop'.out; omega) n; rw [hL5'.out] at h1; omega
                  have hLm2 : Hid (L.map (·.2) = st2.bl) := Lib.hid (hLm.out.trans hbl2.out.symm); clear k0 k1 k2 k3 hb3 ho3; have hK3' := Lib.hid hK3; have hG3' := Lib.hid hG3; have hz3' := Lib.hid hz3; have ho30' := Lib.hid ho30; have hlL' := Lib.hid hlL; clear hK3 hG3 hz3 ho30 hlL
                  go_wp2
                  go_loopw [4, 12, 13, 14, 82] (fun ov _ _ _ xv wr => ∃ (j : Nat) (st3 : RdT) (L3 : List (Nat × List (List Int))), ov = .slice a3 k c3 ∧ j ≤ m5 ∧ xv = .int .i64 j ∧ Hid ((L5.take j).foldlM (rdE s.ps n) st2 = .ok st3) ∧ Hid (RdK w wr s pa k pc ta tc tl a3 c3 L3) ∧ Hid (L3.map (·.2) = st3.bl) ∧ Hid (∀ (i : Nat) x, L3[i]? = some x → x.1 < zc) ∧ Hid (∀ (i : Nat) p x, s.ps[i]? = some p → L3[i]? = some x → x.2.length = a * p.1.toNat * d * p.2.1.toNat) ∧ Hid (RdG w zc wr rr gl s pa k pc ta tc ba bn st3) ∧ Hid (wr.ownsRow 0 142 2 (.slice a5 m5 c5) m5 (placesC L5)) ∧ Hid (zc ≤ wr.heap.size)) (fun _ _ _ _ xv _ => m5 - (intOf xv).toNat)
                  case atStart => exact ⟨0, st2, L, rfl, by omega, rfl, Lib.hid rfl, hK3', hLm2, hLlt, hshape, hG3', ho30', hz3'⟩
                  case round =>
                    rename World => wi
                    obtain ⟨j, st3, L3, rfl, hj, rfl, hfold3, hK4, hLm4, hLlt4, hshape4, hG4, ho4, hz4⟩ := hrel
                    by_cases hjt : j < m5
                    · obtain ⟨y, hy⟩ : ∃ y, L5[j]? = some y := ⟨_, List.getElem?_eq_getElem (by rw [hlL'.out]; exact hjt)⟩
                      obtain ⟨pb, o, ha5, hpbb, f0, f1⟩ := place_elem (Sl.of_own ho4.out).1 hy; obtain ⟨p, hp, hyn⟩ := unit_in (d := d) (by have := htop'.out; have := ha'.out; omega) hpts'.out (by rw [hN'.out]; exact hnlt) (show y ∈ unitS a s.ps n by rw [hL5'.out]; exact List.mem_of_getElem? hy); have hpm := hpts'.out y.1 p hp; have hyk : y.1 < k := by rw [← hl'.out]; exact (List.getElem?_eq_some_iff.1 hp).1
                      obtain ⟨x, hx⟩ : ∃ x, L3[y.1]? = some x := ⟨_, List.getElem?_eq_getElem (by rw [hK4.out.out.len]; exact hyk)⟩; have hxl : y.2 < x.2.length := by rw [hshape4.out y.1 p x hp hx]; exact hyn
                      have hm1 : mayH p.2.2.1 = true := by
                        cases h : mayH p.2.2.1 with
                        | true => rfl
                        | false => rw [mayPt_dc h] at hpm; cases hpm
                      have hm2 : mayH p.2.2.2 = true := by
                        cases h : mayH p.2.2.2 with
                        | true => rfl
                        | false => rw [mayPt_ac h] at hpm; cases hpm
                      have hsn : (L5.take (j + 1)).foldlM (rdE s.ps n) st2 = rdE s.ps n st3 y := by
                        rw [exN_snoc hy, hfold3.out]; rfl
                      have hrdB : rdB s.ps st3 y = (blkR p (st3.last.getD y.1 0) 65 [] st3.B).map fun q => ⟨setB st3.bl y q.1, q.2, st3.rest, st3.last.set y.1 (q.1.getD 0 0)⟩ := by unfold rdB; rw [hp]; rfl
                      obtain ⟨y0, y1⟩ := y; simp only at f0 f1 hp hyn hyk hx hxl hrdB; have hal := (Below.refl wi.heap.size wi).alloc (Nat.le_refl _) (.cells #[.int .i64 y0, .int .i64 y1] 142); have bq := Blk.new wi 142 #[.int .i64 y0, .int .i64 y1]; obtain ⟨wx, hwx⟩ : ∃ W, wi.alloc (.cells #[.int .i64 y0, .int .i64 y1] 142) = W := ⟨_, rfl⟩; rw [hwx] at hal bq; have hK5 := hK4.out.late hal; have ho5 := own_later ho4.out hal; have hz5 := Nat.le_trans hz4.out hal.size; obtain ⟨rb, a1, n1, c1, D, i, ra, rn, rc, q1, q2, q3, q4, q5, q6, q7, q8⟩ := hG4.out.late hal; have HB := rblock_any rr gl rb s pa k pc ta tc ra rn rc st3.last a1 n1 c1 D i y0 p tl wx q2 hK5.tb hK5.tw htl.out hp hyk hm1 hm2; rw [← q1] at HB
                      have hap : Apart w wx (fun j => j = rb ∨ j = gl) := fun j hj => by
                        rcases hj with rfl | rfl
                        · exact ⟨q7, _, _, q2.bt.blk, by decide, by decide, by decide, by decide, by decide⟩
                        · exact ⟨hgew'.out.1, _, _, q2.lr, by decide, by decide, by decide, by decide, by decide⟩
                      have hnq : ¬ (wi.heap.size = rb ∨ wi.heap.size = gl) := fun h => h.elim (fun e => blk_neT bq q2.bt.blk (by decide) e) (fun e => blk_neT bq q2.lr (by decide) e); have hno5 : ∀ j, (Value.slice a5 m5 c5).ownBlock = some j → ¬ (j = rb ∨ j = gl) := fun j hj h => h.elim (fun e => own_neB ho5 q2.bt.blk (by decide) (e ▸ hj)) (fun e => own_neB ho5 q2.lr (by decide) (e ▸ hj))
                      have hra5 : ∀ z, ra = some z → ¬ (z.block = rb ∨ z.block = gl) := fun z hz h => by
                        obtain ⟨z2, hz2, e2⟩ := q6 z hz; have h1 := hba'.out z2 hz2; have h2 := hgew'.out
                        omega
                      have e0 : wx.cell? ⟨wi.heap.size, 0, none⟩ = some (.int .i64 y0) := bq.cell rfl; subst ha5; clear hpm hm1 hm2 hal q2 hyn; have hy' := Lib.hid hy; have hp' := Lib.hid hp; have hx' := Lib.hid hx; have hxl' := Lib.hid hxl; have hsn' := Lib.hid hsn; have hrdB' := Lib.hid hrdB; have bq' := Lib.hid bq; have hwx' := Lib.hid hwx; have hK5' := Lib.hid hK5; have ho5' := Lib.hid ho5; have hz5' := Lib.hid hz5; have q1' := Lib.hid q1; have q3' := Lib.hid q3; have q4' := Lib.hid q4; have q5' := Lib.hid q5; have q6' := Lib.hid q6; have q7' := Lib.hid q7; have q8' := Lib.hid q8; have HB' := Lib.hid HB; have hap' := Lib.hid hap; have hnq' := Lib.hid hnq; have hno5' := Lib.hid hno5; have hra5' := Lib.hid hra5; have hpbb' := Lib.hid hpbb; have hyk' := Lib.hid hyk; clear hy hp hx hxl hsn hrdB bq hwx hK5 ho5 hz5 q1 q3 q4 q5 q6 q7 q8 HB hap hnq hno5 hra5 hpbb hyk
                      go_upto_region 17 with fail
                      try rw [hwx'.out]
                      go_wp2_with fail
                      refine HB'.out.mono ?_; rintro e w3 ⟨hres, hm3⟩; have hK6 := hK5'.out.mo hm3 hap'.out; have ho6 := own_mo ho5'.out hm3 hno5'.out; have bq6 := bq'.out.mo hm3 hnq'.out; have hz6 := Nat.le_trans hz5'.out hm3.size; have s6 := q3'.out.mo hm3 hra5'.out; clear e0 f0 f1 hm3
                      rcases hres with ⟨hno, LL, hL64, rfl⟩ | ⟨b, jj, hblk, rfl, hb64, hbw, hrd6⟩
                      · obtain ⟨A, hA⟩ : ∃ A, (ints .i64 LL).toArray = A := ⟨_, rfl⟩
                        have hAs : A.size = 64 := by rw [← hA]; exact ints_size hL64
                        have hone : A.all (·.oneCell') = true := by rw [← hA]; exact ints_one'
                        have hun : rdU s st n = .error n := by
                          rw [hstep'.out]; refine exN_err (j := j + 1) ?_; rw [hsn'.out]; unfold rdE; rw [hrdB'.out, hno]
                          rfl
                        have hre := readS_err hNs'.out hfold.out hnlt hun; have hb7 := hK6.bel.trans (((Below.refl w3.heap.size w3).alloc (Nat.le_refl _) (.cells A 129)).mono hK6.bel.size); rw [hA]; clear hK6 ho6 bq6 hz6 s6 hno hun; have hAs' := Lib.hid hAs; have hone' := Lib.hid hone; have hre' := Lib.hid hre; have hb7' := Lib.hid hb7; have hA' := Lib.hid hA; clear hAs hone hre hb7 hA
                        go_upto_region 18 with (refine wpList_store_row rfl 129 (.tmp 13) (.tmp 91) rfl w3.heap.size A rfl rfl 129 _ (heap_new _ _) (by rw [hAs'.out]; exact infoB64) (by rw [hAs'.out]; rfl) hone'.out ?_)
                        rw [setRow_alloc]; obtain ⟨w7, hw7⟩ : ∃ W, w3.alloc (.cells A 129) = W := ⟨_, rfl⟩; rw [hw7] at hb7' ⊢; clear hw7
                        go_wp2
                        go_ret3
                        exact RdPost.err hM'.out hre'.out rfl hb7'.out
                      · obtain ⟨A, hA⟩ : ∃ A, (ints .i64 b).toArray = A := ⟨_, rfl⟩
                        have hAs : A.size = 64 := by rw [← hA]; exact ints_size hb64
                        have hone : A.all (·.oneCell') = true := by rw [← hA]; exact ints_one'
                        have hbi : (ints .i64 b).length = 64 := by rw [ints_len]; exact hb64
                        have hsn2 : (L5.take (j + 1)).foldlM (rdE s.ps n) st2 = .ok ⟨setB st3.bl (y0, y1) b, (bitsS D).drop jj, st3.rest, st3.last.set y0 (b.getD 0 0)⟩ := by
                          rw [hsn'.out]; unfold rdE; rw [hrdB'.out, hblk]
                          rfl
                        have hal7 := (Below.refl w3.heap.size w3).alloc (Nat.le_refl _) (.cells A 129); have b7 := Blk.new w3 129 A; obtain ⟨w7, hw7⟩ : ∃ W, w3.alloc (.cells A 129) = W := ⟨_, rfl⟩; rw [hw7] at hal7 b7; have hDq := (Below.refl w7.heap.size w7).drew; obtain ⟨wD, hwD⟩ : ∃ W, w7.drew = W := ⟨_, rfl⟩; rw [hwD] at hDq; have hl7 := hal7.trans (hDq.mono hal7.size); have hKD := hK6.late hl7; have hoD := own_later ho6 hl7; have bqD := bq6.late hl7; have bD := b7.late hDq; have hrdD := hrd6.late hl7; have sD := s6.mono hl7; have hzD := Nat.le_trans hz6 hl7.size; obtain ⟨go, oo, ha3, hgo, hco, hgx⟩ := hKD.out.cell hx'.out; obtain ⟨hxB, hxblk, hxw⟩ := hKD.out.blk y0 x hx'.out; obtain ⟨g13, hg13⟩ : ∃ g, w3.heap.size = g := ⟨_, rfl⟩; rw [hg13] at bD; have hbt : But x.1 wD (wD.setCells x.1 (y1 * 64) (ints .i64 b)) := but_cells; have hKE := hKD.put hx'.out hxl'.out hb64 hbw; have hxz : x.1 < zc := hLlt4.out y0 x hx'.out; have hGD : RdG w zc wD rr gl s pa k pc ta tc ba bn ⟨setB st3.bl (y0, y1) b, (bitsS D).drop jj, st3.rest, st3.last.set y0 (b.getD 0 0)⟩ := ⟨rb, a1, n1, c1, D, jj, ra, rn, rc, rfl, hrdD, sD, q4'.out, q5'.out, q6'.out, q7'.out, q8'.out⟩; have hGE := hGD.but hbt hxblk hxz hxB hba'.out; have hoE := own_but hoD hbt (own_neB hoD hxblk (by decide)); have hzE := Nat.le_trans hzD hbt.size
                        have hLmE : Hid ((L3.set y0 (x.1, x.2.set y1 b)).map (·.2) = setB st3.bl (y0, y1) b) := Lib.hid (by
                          unfold setB; rw [List.map_set, ← hLm4.out, List.getD_eq_getElem?_getD, List.getElem?_map, hx'.out]
                          rfl)
                        have hLltE : Hid (∀ (i : Nat) z, (L3.set y0 (x.1, x.2.set y1 b))[i]? = some z → z.1 < zc) := Lib.hid fun i z hz => by
                          by_cases hi : y0 = i
                          · subst hi
                            rw [List.getElem?_set_self (List.getElem?_eq_some_iff.1 hx'.out).1] at hz; injection hz with hz; rw [← hz]; exact hxz
                          · rw [List.getElem?_set_ne hi] at hz
                            exact hLlt4.out i z hz
                        have hshE : Hid (∀ (i : Nat) p z, s.ps[i]? = some p → (L3.set y0 (x.1, x.2.set y1 b))[i]? = some z → z.2.length = a * p.1.toNat * d * p.2.1.toNat) := Lib.hid fun i p z hp hz => by
                          by_cases hi : y0 = i
                          · subst hi
                            rw [List.getElem?_set_self (List.getElem?_eq_some_iff.1 hx'.out).1] at hz; injection hz with hz; rw [← hz, List.length_set]; exact hshape4.out y0 p x hp hx'.out
                          · rw [List.getElem?_set_ne hi] at hz
                            exact hshape4.out i p z hp hz
                        obtain ⟨Tz, f2, hnn2, hpr2, hsurj2⟩ := pr_worlds (fun W => W.cell? ⟨go, oo + y0, none⟩ = some (obV x) ∧ Blk W wi.heap.size 142 #[.int .i64 y0, .int .i64 y1] ∧ Blk W g13 129 A) wD ⟨hco, bqD, bD⟩; have HS := Lib.hid (hsurj2 wD ⟨hco, bqD, bD⟩); have n13 : g13 ≠ x.1 := by have := hz6; have := hxz; omega
                        have HSE := Lib.hid (hsurj2 (wD.setCells x.1 (y1 * 64) (ints .i64 b)) ⟨(hbt.cell (p := ⟨go, oo + y0, none⟩) hgo hgx).trans hco, bqD.but hbt (blk_neT bqD hxblk (by decide)), bD.but hbt n13⟩); obtain ⟨xg, xl⟩ := x; simp only at hxblk hxB hbt hKE hGE hoE hzE hLmE hLltE hshE HSE hxz hgx n13; have y0c : ∀ s, (f2 s).cell? ⟨go, oo + y0, none⟩ = some (.slice (some ⟨xg, 0, none⟩) xl.length xl.length) := fun s => (hpr2 s).1; have y1c : ∀ s, (f2 s).cell? ⟨wi.heap.size, 0, none⟩ = some (.int .i64 y0) := fun s => (hpr2 s).2.1.cell rfl; have y2c : ∀ s, (f2 s).cell? ⟨wi.heap.size, 1, none⟩ = some (.int .i64 y1) := fun s => (hpr2 s).2.1.cell rfl
                        have y3c : ∀ W, (∃ u, W = f2 u) → ∀ j v, (ints .i64 b)[j]? = some v → W.cell? ⟨g13, 0 + j, none⟩ = some v := fun W hW j v hv => by
                          obtain ⟨u, rfl⟩ := hW; exact (hpr2 u).2.2.cell (by rw [Nat.zero_add, ← hA, List.getElem?_toArray]; exact hv)
                        have hxl2 : y1 < xl.length := hxl'.out; have hyk2 := hyk'.out
                        have hthere : wD.there xg (y1 * 64) A.size := fun jx hjx => by
                          have hfl := flatB_len (l := xl) fun z hz => (hxw z hz).1; have hle : (y1 + 1) * 64 ≤ xl.length * 64 := Nat.mul_le_mul_right _ hxl2; have hsz : y1 * 64 + jx < (flatB xl).length := by omega
                          refine ⟨?_, hxblk.frozen _⟩; rw [hxblk.cell (v := (flatB xl)[y1 * 64 + jx]) (by rw [List.getElem?_toArray, List.getElem?_eq_getElem hsz])]
                          rfl
                        subst ha3; rw [hA]; clear hpr2 hsurj2 hK6 ho6 bq6 hz6 s6 hal7 b7 hDq hl7 hKD hoD bqD hrdD sD hzD hco hGD hblk hrd6 hbw hxw; have hA' := Lib.hid hA; have hAs' := Lib.hid hAs; have hone' := Lib.hid hone; have hbi' := Lib.hid hbi; have hsn2' := Lib.hid hsn2; have hw7' := Lib.hid hw7; have hwD' := Lib.hid hwD; have hg13' := Lib.hid hg13; have bD' := Lib.hid bD; have hKE' := Lib.hid hKE; have hGE' := Lib.hid hGE; have hoE' := Lib.hid hoE; have hzE' := Lib.hid hzE; have y3c' := Lib.hid y3c; have hthere' := Lib.hid hthere; have hxblk' := Lib.hid hxblk; have hbt' := Lib.hid hbt; clear hA hAs hone hbi hsn2 hw7 hwD hg13 bD hKE hGE hoE hzE y3c hthere hxblk hbt
                        go_upto_region 18 with (refine wpList_store_row rfl 129 (.tmp 13) (.tmp 91) rfl w3.heap.size A rfl rfl 129 _ (heap_new _ _) (by rw [hAs'.out]; exact infoB64) (by rw [hAs'.out]; rfl) hone'.out ?_)
                        rw [setRow_alloc, hw7'.out, hg13'.out]
                        go_upto_region 20 with fail
                        refine held_begin (S := fun W => ∃ s, W = f2 s) (by kernel_rfl) 10 rfl ?_; rw [hwD'.out]; refine held_take [0, 1, 2, 3, 4, 5, 6, 7, 8] 1 (by kernel_rfl) (fun d _ _ _ _ h => by cases d <;> exact h) (by kernel_rfl) (by kernel_rfl) (by kernel_rfl) HS.out ?_; simp only [pickL, List.map_cons, List.map_nil, List.getD_cons_succ, List.getD_cons_zero]
                        iterate 7 (go_big_quiet_step (fail))
                        refine wpQuiet_load_at rfl 129 (.tmp 13) rfl g13 0 rfl (ints .i64 b) A hA'.out _ y3c'.out Try.underlying129 rfl 64 infoB64 hbi'.out ?_; simp only [Act.put, List.setIfInBounds_toArray, List.set_cons_succ, List.set_cons_zero]
                        iterate 1 (go_big_quiet_step (fail))
                        refine wpQuiet_nil ?_; clear y0c y1c y2c; refine held_one 9 0 (by kernel_rfl) (by kernel_rfl) ?_; simp only [pickL, List.map_cons, List.map_nil, List.getD_cons_succ, List.getD_cons_zero]
                        go_wp2_with (refine wpList_store_mid rfl 129 (.tmp 104) (.tmp 103) rfl xg (y1 * 64) A rfl rfl hthere'.out (by rw [hAs'.out]; exact infoB64) hone'.out ?_)
                        have hAl : A.toList = ints .i64 b := by rw [← hA'.out]
                        rw [hAl]; refine Mid.mk ⟨HSE.out, ?_⟩; refine held_last (by kernel_rfl) ?_; clear HS HSE hAl
                        go_wp2
                        go_roundw
                        case rel => exact ⟨j + 1, _, _, rfl, by omega, by go_num, hsn2', hKE', hLmE, hLltE, hshE, hGE', hoE', hzE'⟩
                        case measure => simp [intOf]; omega
                    · have hjk : j = m5 := by omega
                      subst hjk; have hf := hfold3.out; rw [List.take_of_length_le (Nat.le_of_eq hlL'.out), ← hstep'.out, ← rd_step hfold.out] at hf; have hnz : Hid (n + 1 = 0 → st3 = rd0 s bb ∧ Blk wi rr 152 (rdrC s pa k pc ta tc ba bn bc none gl) ∧ Blk wi gl 3 (ints .i64 (List.replicate k 0)).toArray) := Lib.hid fun h => by omega
                      have hf' := Lib.hid hf; clear hf
                      go_wp2
                      go_roundw
                      case rel => exact ⟨n + 1, st3, L3, rfl, by omega, by go_num, hf', hK4, hLm4, hLlt4, hshape4, hnz, Lib.hid (fun _ => hG4.out), hz4⟩
                      case measure => simp [intOf]; omega
            · have hnN : n = N := by omega
              have hNp : 0 < N := by rw [← hN'.out]; have := htop'.out; have := ha'.out; have := hd'.out; exact Nat.mul_pos (by omega) (by omega)
              obtain ⟨rb, a1, n1, c1, D, i, ra, rn, rc, q1, q2, q3, q4, q5, q6, q7, q8⟩ := hpos.out (by omega); have hre := readS_end hNs'.out (by have := hfold.out; rw [hnN] at this; exact this); have hfe := fill_eq (i := i) q2.bt.sl.ilen; rw [← q1] at hfe; rw [← hfe] at hre; have HF := filled_any rb a1 n1 c1 D i wr q2.bt; obtain ⟨F, hF⟩ : ∃ F, filledS D i (8 * n1) = F := ⟨_, rfl⟩; rw [hF] at HF hre; obtain ⟨k3, k5, k6, k7⟩ := rdr_cells q2.rd; have hrl := q3.ilen; have hrd2 := q2.rd; have hN26 : N ≤ 262144 := hN2'.out
              have hba3 := hK.out.out.reads (fun x hx => by
                obtain ⟨i, hi, e⟩ := List.mem_iff_getElem.1 hx; have hik : i < k := by rw [← hK.out.out.len]; exact hi
                obtain ⟨p, hp⟩ : ∃ p, s.ps[i]? = some p := ⟨_, List.getElem?_eq_getElem (by rw [hl'.out]; exact hik)⟩; have h1 := hshape.out i p x hp (by rw [List.getElem?_eq_getElem hi, e]); have h2 := mayPt_bd (hpts'.out i p hp); have b1 : a * p.1.toNat ≤ 512 * 4 := Nat.mul_le_mul ha512'.out (by omega); have b2 : a * p.1.toNat * d ≤ 512 * 4 * 512 := Nat.mul_le_mul b1 hd512'.out; have b3 : a * p.1.toNat * d * p.2.1.toNat ≤ 512 * 4 * 512 * 4 := Nat.mul_le_mul b2 (by omega); unfold maxLen
                omega)
              have hmapb : (L.map fun x : Nat × List (List Int) => (x.2, (some ⟨x.1, 0, none⟩ : Option Addr), x.2.length, x.2.length)).map (·.1) = st.bl := by
                rw [List.map_map]; exact hLm.out
              have hblw := hK.out.bel; clear k3 k7 hF hfe q1 q2 q3 q4 q5 q6 q7 q8 hnN hzero hpos; have hre' := Lib.hid hre; have HF' := Lib.hid HF; have hrl' := Lib.hid hrl; have hrd2' := Lib.hid hrd2; have hba3' := Lib.hid hba3; have hmapb' := Lib.hid hmapb; have hblw' := Lib.hid hblw; have hNp' := Lib.hid hNp; clear hre HF hrl hrd2 hba3 hmapb hblw hNp
              go_wp2_with fail
              refine HF'.out.mono ?_; rintro e w2 ⟨rfl, hq2⟩; have hb2 := hblw'.out.trans ((hq2.below _).mono hblw'.out.size); have hsc2 := hK.out.sc.late (hq2.below _); obtain ⟨_, k5b, _, _⟩ := rdr_cells (hrd2'.out.late (hq2.below _)); have hba4 := hba3'.out.mono (hq2.below _); obtain ⟨k0, k1, k2, k3⟩ := hcs3'.out w2 hsc2; clear k5 k6 hq2 hsc2 k2 k3; have hb2' := Lib.hid hb2; have hba4' := Lib.hid hba4; clear hb2 hba4
              cases F with
              | false =>
                have hre2 : readS s bb = .error N := by rw [hre'.out, if_neg (by simp)]
                clear k5b; have hre2' := Lib.hid hre2; clear hre2
                go_wp2
                go_quiet (fail)
                go_wp2
                go_ret3
                exact RdPost.err hM'.out hre2'.out rfl (hb2'.out.trans ((Qt.below ⟨_, rfl⟩ _).mono hb2'.out.size))
              | true =>
                by_cases hr0 : rn = 0
                · have hre2 : readS s bb = .ok st.bl := by
                    rw [hre'.out, if_pos ⟨rfl, List.eq_nil_of_length_eq_zero (by rw [hrl'.out]; exact hr0)⟩]
                  subst hr0; clear k0 k1; have hre2' := Lib.hid hre2; clear hre2
                  go_wp2
                  go_ret3
                  exact RdPost.ok hM'.out hre2'.out rfl hba4'.out hmapb'.out hb2'.out
                · have hre2 : readS s bb = .error N := by
                    rw [hre'.out, if_neg]; rintro ⟨_, h⟩; have := hrl'.out; rw [h] at this; exact hr0 this.symm
                  have hr0 : (0 : Int) < rn := by omega
                  have hre2' := Lib.hid hre2; clear hre2
                  go_wp2
                  go_quiet (fail)
                  go_wp2
                  go_ret3
                  exact RdPost.err hM'.out hre2'.out rfl (hb2'.out.trans ((Qt.below ⟨_, rfl⟩ _).mono hb2'.out.size))
end Go.Proofs.Ytpjopeojeglogaa
