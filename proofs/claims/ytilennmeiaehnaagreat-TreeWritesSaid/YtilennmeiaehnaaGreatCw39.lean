/- Chapter 21: a directory, and all within it, is written: the document. -/
import Derived.Test.YtilennmeiaehnaaGreatCw37
import Derived.Test.YtilennmeiaehnaaGreatCw38
import Derived.Test.YtilennmeiaehnaaGreatCw25
import Derived.Test.YtilennmeiaehnaaGreatCw14
namespace Go.Proofs.YtilennmeiaehnaaGreat
open Go.RowKit Tt
set_option linter.unusedVariables false
set_option linter.unusedSimpArgs false

/-- what the document's written does -/
def RWrt (zs : List Shz) (qa : Option Addr) (qn qc : Nat) (spa : Option Addr) (spn spc : Nat) (l : List Spt) (n : Nat) (o : Int) (f : Nat) : Prop := ∀ (w0 w : World) (pa : Option Addr) (pc : Nat) (P : List Int) (d : DirT f) (dv : Dz) (no : Int) (i : Nat),
  Sl w pa n pc 1 (ints .u8 P) → Below w0.heap.size w0 w → Sl w0 spa spn spc 5 (fl spC l) → ShR w0 qa qn qc zs → DirR w0 f d dv → smallD f d → bytD f d → shapesB (shps zs) = true → hasS (shps zs) f d i = true → okW (shps zs) l n o f d no i → i < qn → 0 ≤ no → no + (flatS f d).length < 1000000 → n ≤ 1000000000000 →
  Calls Tryz.prog 46 #[.slice pa n pc, .slice spa spn spc, .agg #[dv.1, dv.2.1, dv.2.2], .int .i64 no, .slice qa qn qc, .int .i64 i, .int .i64 o] w fun e w' =>
    ∃ a' c', e = .returned (.tuple #[.slice a' n c', .int .i64 (no + (flatS f d).length)]) ∧ w'.ownsRow w.heap.size 5 1 (.slice a' n c') n (ints .u8 (apP (dirQ (shps zs) l o f d no i) P)) ∧ Below w.heap.size w w'
/-- what lies while the directories within are written -/
structure WrIn (n : Nat) (w wr : World) (dv : Array Value) (bv sv : Value) (P : List Int) (ks : List Int) : Prop where
  bel : Below w.heap.size w wr
  bA : Blk wr w.heap.size 42 dv
  b : Bd w.heap.size wr bv n P
  l : wr.ownsRow w.heap.size 3 1 sv ks.length (ints .i64 ks)
section
variable {n : Nat} {w wr w2 : World} {dv : Array Value} {bv sv : Value} {P : List Int} {ks : List Int}
theorem WrIn.later (h : WrIn n w wr dv bv sv P ks) (hb : Below wr.heap.size wr w2) : WrIn n w w2 dv bv sv P ks :=
  ⟨h.bel.trans (hb.mono h.bel.size), h.bA.late hb, h.b.later hb, own_later h.l hb⟩
theorem WrIn.add {sv2 : Value} {ks2 : List Int} (h : WrIn n w wr dv bv sv P ks) (ho : w2.ownsRow w.heap.size 3 1 sv2 ks2.length (ints .i64 ks2)) (hg : wr.grownBy w2 sv.ownBlock) : WrIn n w w2 dv bv sv2 P ks2 :=
  ⟨below_grown h.bel hg h.bel.size h.l, h.bA.grown hg (own_ne_blk0 h.l h.bA (by decide)), h.b.grown hg h.l (by decide), ho⟩
theorem WrIn.put {a : Option Addr} {c : Nat} {P2 : List Int} (h : WrIn n w wr dv bv sv P ks) (hb : Below wr.heap.size wr w2) (ho : w2.ownsRow wr.heap.size 5 1 (.slice a n c) n (ints .u8 P2)) : WrIn n w w2 dv (.slice a n c) sv P2 ks :=
  have h2 := h.later hb
  ⟨h2.bel, h2.bA, Bd.of_own ho, h2.l⟩
end
theorem subK_step (f : Nat) (ss : List (Int × DirT f)) (no : Int) (j : Nat) : (List.range (j + 1)).map (subN f ss no) = (List.range j).map (subN f ss no) ++ [subN f ss no j] := by
  rw [List.range_succ, List.map_append]; rfl
set_option maxRecDepth 20000 in
set_option maxHeartbeats 8000000 in
theorem rwrt_step (zs : List Shz) (qa : Option Addr) (qn qc : Nat) (spa : Option Addr) (spn spc : Nat) (l : List Spt) (n : Nat) (o : Int) (f : Nat) (ih : RWrt zs qa qn qc spa spn spc l n o f) : RWrt zs qa qn qc spa spn spc l n o (f + 1) := by
  intro w0 w pa pc P d dv no i hb hb0 hsp hsh hd hs hby hok hh hW hi hno hno2 hn
  have hzl := hsh.len
  obtain ⟨ta, tn, tc, ts, sa, sn, sc, ds, ba, bn, bc, rfl, htg, hdt, hsl, hdl, hsub, hbl⟩ := id hd
  obtain ⟨h1, h2, h3, h4⟩ := id hs
  obtain ⟨hy1, hy2, hy3⟩ := id hby
  have hsn : d.2.1.length = sn := by rw [← hdl]; exact hsl.flen sbC_len (by decide)
  have hsn6 : sn ≤ 6 := by omega
  have hmx := hsh.row.max
  have hle := hsh.row.le
  have hgs : (shps zs).getD i shp0 = (zs.getD i shz0).2 := shps_get (by rw [hzl]; exact hi)
  have hsubI := fun t => subI_ok (L := shps zs) (i := i) (t := t) hok (by unfold shps; rw [List.length_map, hzl]; exact hi)
  have hsl2 : (shps zs).length = qn := by unfold shps; rw [List.length_map]; exact hzl
  have hD := dirQ_succ (shps zs) l o f d no i
  have hfl : (flatS (f + 1) d).length = (flats f d.2.1).length + 1 := by rw [flatS_succ]; rfl
  have hf := hasF_iff.1 hh
  have htg2 : ∀ x ∈ d.1, tagB x.1 = true ∧ okT x = true := fun x hx => ⟨(hf.tg x hx).1, (hf.tg x hx).2.2⟩
  have hfs := hf.sb
  obtain ⟨k1, k2, k3, k4, k5, k6, k7, k8, k9⟩ := okW_succ hW
  rw [Int.toNat_natCast] at hD k2 k4 k5 k6 k8 k9 hfs
  have hlk0 := hsh.at hi
  obtain ⟨b, ob, hqa, hblt, fe⟩ := hsh.row.elem shc_len (by decide) shz0 hi
  obtain ⟨⟨⟨la, ln, lc⟩, ⟨lks, sat, slong, snx⟩⟩, hz⟩ : ∃ z, zs.getD i shz0 = z := ⟨_, rfl⟩
  rw [hz] at fe hgs hlk0
  simp only at hgs hlk0
  rw [hgs] at hD k2 k4 k5 k6 k8 k9 hsubI hfs
  have f0 := late hb0 hblt (fe 0 _ rfl)
  have f1 := late hb0 hblt (fe 1 _ rfl)
  have f2 := late hb0 hblt (fe 2 _ rfl)
  have f3 := late hb0 hblt (fe 3 _ rfl)
  simp only [Nat.add_zero] at f0 f1 f2 f3
  clear fe
  have hin : (i : Int) < (qn : Int) := by omega
  have hi0 : (0 : Int) ≤ (i : Int) := by omega
  have hblt' : b < w.heap.size := Nat.lt_of_lt_of_le hblt hb0.size
  have hwn : IntKind.i64.wrap (no + 1) = no + 1 := by rw [IntKind.wrap_i64]; omega
  have bA := Blk.new w 42 #[.slice ta tn tc, .slice sa sn sc, .slice ba bn bc]
  have hb1 := (Below.refl w.heap.size w).alloc (Nat.le_refl _) (.cells #[.slice ta tn tc, .slice sa sn sc, .slice ba bn bc] 42)
  obtain ⟨W1, hW1⟩ : ∃ W1, w.alloc (.cells #[.slice ta tn tc, .slice sa sn sc, .slice ba bn bc] 42) = W1 := ⟨_, rfl⟩
  rw [hW1] at bA hb1
  have hPl := hb.ilen
  have hin0 : WrIn n w W1 (dvA ta tn tc sa sn sc ba bn bc) (.slice pa n pc) nilV P [] :=
    ⟨hb1, bA, ⟨pa, pc, rfl, hb.mono hb1, fun x e => by
      have hn2 : 0 < n := by obtain ⟨_, h1, h2⟩ := k4; omega
      obtain ⟨g, off, h1, h2, _⟩ := hb.lies 0 hn2
      rw [e] at h1
      injection h1 with h1
      rw [h1]
      exact .inl h2⟩, own_nil _ _ _ _⟩
  obtain ⟨i0, hii, hz0, hz1, hz2⟩ := info_parts infoI64
  have hb' := Lib.hid hb
  have hsh' := Lib.hid hsh
  have hb0' := Lib.hid hb0
  have htg' := Lib.hid htg
  have hdt' := Lib.hid hdt
  have hsl' := Lib.hid hsl
  have hdl' := Lib.hid hdl
  have hsub' := Lib.hid hsub
  have hbl' := Lib.hid hbl
  have h4' := Lib.hid h4
  have ih' := Lib.hid ih
  have hok' := Lib.hid hok
  have hzl' := Lib.hid hzl
  have hsn' := Lib.hid hsn
  have hgs' := Lib.hid hgs
  have hsubI' := Lib.hid hsubI
  have hsl2' := Lib.hid hsl2
  have hD' := Lib.hid hD
  have hfl' := Lib.hid hfl
  have k1' := Lib.hid k1
  have k2' := Lib.hid k2
  have k3' := Lib.hid k3
  have k4' := Lib.hid k4
  have k5' := Lib.hid k5
  have k6' := Lib.hid k6
  have k8' := Lib.hid k8
  have k9' := Lib.hid k9
  have hlk0' := Lib.hid hlk0
  have hz' := Lib.hid hz
  have hy1' := Lib.hid hy1
  have hy2' := Lib.hid hy2
  have hy3' := Lib.hid hy3
  have hW' := Lib.hid hW
  have hb1' := Lib.hid hb1
  have hW1' := Lib.hid hW1
  have bA' := Lib.hid bA
  have hin0' := Lib.hid hin0
  have hPl' := Lib.hid hPl
  have htg2' := Lib.hid htg2
  have hfs' := Lib.hid hfs
  have hsp' := Lib.hid hsp
  have hd' := Lib.hid hd
  have hs' := Lib.hid hs
  have hby' := Lib.hid hby
  have hh' := Lib.hid hh
  have hf' := Lib.hid hf
  have hqa' := Lib.hid hqa
  clear hb hsh hb0 htg hdt hsl hdl hsub hbl h4 ih hok hzl hsn hgs hsubI hsl2 hD hfl k1 k2 k3 k4 k5 k6 k8 k9 hlk0 hz hy1 hy2 hy3 hW hb1 hW1 bA hin0 hPl htg2 hfs hsp hd hs hby hh hf hqa
  go_enter Tryz.func46, Tryz.ntmps46
  go_wp2_with fail
  try rw [hW1'.out]
  clear f0 f1 f2 f3
  go_loopw [0, 16, 17, 18] (fun bv nv sv iv wr => ∃ j : Nat, j ≤ sn ∧ iv = .int .i64 j ∧ nv = .int .i64 (subN f d.2.1 no j) ∧ Hid (WrIn n w wr (dvA ta tn tc sa sn sc ba bn bc) bv sv (apP (subP (dirQ (shps zs) l o f) (lks, sat, slong, snx) d.2.1 no j) P) ((List.range j).map (subN f d.2.1 no)))) (fun _ _ _ iv _ => sn - (intOf iv).toNat)
  case atStart =>
    refine ⟨0, by omega, rfl, ?_, hin0'⟩
    have : subN f d.2.1 no 0 = no + 1 := by unfold subN flats; simp
    rw [this]
  case round =>
    obtain ⟨j, hj, rfl, rfl, hWr⟩ := hrel
    have d1 : wr.cell? ⟨w.heap.size, 1, none⟩ = some (.slice sa sn sc) := hWr.out.bA.cell rfl
    by_cases hlt : j < sn
    · have hil : (j : Int) < (sn : Int) := by omega
      have hw1 : IntKind.i64.wrap ((j : Int) + 1) = j + 1 := by rw [IntKind.wrap_i64]; omega
      have hid : j < d.2.1.length := by rw [hsn'.out]; exact hlt
      have hids : j < ds.length := by rw [hdl'.out]; exact hid
      have hbr := hb0'.out.trans (hWr.out.bel.mono hb0'.out.size)
      obtain ⟨xb, xo, rfl, hblt2, fe⟩ := hsl'.out.elem sbC_len (by decide) (0, (.slice none 0 0, .slice none 0 0, .slice none 0 0)) hlt
      rw [getD_el hids] at fe
      obtain ⟨hq1, hq2⟩ := hsub'.out j hids hid
      obtain ⟨ua, un, uc, ra, rn, rc, xa, xn, xc, hv⟩ := hq2.v
      have g0 := fe 0 _ rfl
      have g1 := fe 1 _ rfl
      have g2 := fe 2 _ rfl
      have g3 := fe 3 _ rfl
      simp only [Nat.add_zero] at g0 g1 g2 g3
      clear fe
      rw [hv] at hq2 g1 g2 g3
      rw [hq1] at g0
      simp only at g0 g1 g2 g3
      have hgd : d.2.1.getD j (0, dirZ f) = d.2.1[j] := getD_el hid _
      have hNs := subN_step f d.2.1 no hid
      have hNl := subN_le f d.2.1 no j
      have hNl2 := subN_le f d.2.1 no (j + 1)
      have hPs := subP_step (dirQ (shps zs) l o f) (lks, sat, slong, snx) d.2.1 no j
      have hKs := subK_step f d.2.1 no j
      obtain ⟨hlk, hkW⟩ := k2'.out j hid
      obtain ⟨_, hkh⟩ := hfs'.out j hid
      have hsbI := hsubI'.out (d.2.1.getD j (0, dirZ f)).1 hlk
      rw [hsl2'.out] at hsbI
      have hsm : smallD f d.2.1[j].2 := h4'.out _ (List.getElem_mem hid)
      have hbyd : bytD f d.2.1[j].2 := hy2'.out _ (List.getElem_mem hid)
      rw [hgd] at hNs hPs hlk hkW hsbI hkh
      obtain ⟨y, hy⟩ : ∃ y, d.2.1[j].1 = y := ⟨_, rfl⟩
      obtain ⟨dd, hdd⟩ : ∃ dd, d.2.1[j].2 = dd := ⟨_, rfl⟩
      rw [hy] at g0 hPs hlk hkW hsbI hkh
      rw [hdd] at hq2 hNs hPs hkW hsm hbyd hkh
      obtain ⟨ns, hns⟩ : ∃ ns, subN f d.2.1 no j = ns := ⟨_, rfl⟩
      rw [hns] at hNs hPs hkW hNl hKs
      obtain ⟨si, hsi⟩ : ∃ si : Nat, subI (lks, sat, slong, snx) y = si := ⟨(subI (lks, sat, slong, snx) y).toNat, by omega⟩
      have hsI : subI (lks, sat, slong, snx) y = (lks.getD (fst (fun z => z.1 == y) lks).toNat (0, 0)).2 := rfl
      rw [hsi] at hkW hsbI hPs hsI hkh
      have hlP := fst_any (p := fun (z : Lk) => z.1 == y) (l := lks)
      have hlk2 : linkP (lks, sat, slong, snx) y = lks.any fun z => z.1 == y := rfl
      rw [← hlk2, hlk, decide_eq_true_eq] at hlP
      have hfb := fst_bounds (p := fun (z : Lk) => z.1 == y) (l := lks)
      obtain ⟨kx, hkx⟩ : ∃ kx : Nat, fst (fun (z : Lk) => z.1 == y) lks = kx := ⟨(fst (fun (z : Lk) => z.1 == y) lks).toNat, by omega⟩
      have hlkl := hlk0'.out.flen lkc_len (by decide)
      rw [hkx] at hsI hfb
      rw [Int.toNat_natCast] at hsI
      rw [hlkl] at hfb
      have hLK := fun W (h : Below w0.heap.size w0 W) => link_any la ln lc lks sat slong snx y W (hlk0'.out.mono h)
      simp only [hkx] at hLK
      have hln : ln ≤ 9223372036854775807 := Nat.le_trans hlk0'.out.le hlk0'.out.max
      have hkxl : kx < ln := by omega
      have hkx2 : (kx : Int) < (ln : Int) := by omega
      have hkx3 : (0 : Int) ≤ (kx : Int) := by omega
      obtain ⟨b3, o3, hla, hblt3, fe⟩ := hlk0'.out.elem lkc_len (by decide) (0, 0) hkxl
      subst hla
      have l1 := fe 1 _ rfl
      rw [← hsI] at l1
      clear fe
      have hal := (Below.refl wr.heap.size wr).alloc (Nat.le_refl _) (.cells #[.int .i64 ns] 3)
      have hin1 := hWr.out.later hal
      have hsl1 := Sl.new wr 3 1 1 #[.int .i64 ns] (0, 0) (by omega) rfl
      have hinl := hin1.l
      rw [List.length_map, List.length_range] at hinl
      have hbr' := Lib.hid hbr
      have hq1' := Lib.hid hq1
      have hq2' := Lib.hid hq2
      have hv' := Lib.hid hv
      have hgd' := Lib.hid hgd
      have hNs' := Lib.hid hNs
      have hNl' := Lib.hid hNl
      have hNl2' := Lib.hid hNl2
      have hPs' := Lib.hid hPs
      have hKs' := Lib.hid hKs
      have hlk' := Lib.hid hlk
      have hkW' := Lib.hid hkW
      have hsbI' := Lib.hid hsbI
      have hsm' := Lib.hid hsm
      have hbyd' := Lib.hid hbyd
      have hy' := Lib.hid hy
      have hdd' := Lib.hid hdd
      have hns' := Lib.hid hns
      have hsi' := Lib.hid hsi
      have hsI' := Lib.hid hsI
      have hlk2' := Lib.hid hlk2
      have hlkl' := Lib.hid hlkl
      have hal' := Lib.hid hal
      have hin1' := Lib.hid hin1
      have hsl1' := Lib.hid hsl1
      have hLK' := Lib.hid hLK
      have hkx' := Lib.hid hkx
      have hkh' := Lib.hid hkh
      have hinl' := Lib.hid hinl
      have hlP' := Lib.hid hlP
      have hfb' := Lib.hid hfb
      clear hbr hq1 hq2 hv hgd hNs hNl hNl2 hPs hKs hlk hkW hsbI hsm hbyd hy hdd hns hsi hsI hlk2 hlkl hal hin1 hsl1 hLK hkx hkh hinl hlP hfb
      rw [hns'.out]
      go_upto_region 7 with (at_builtin; refine wpList_app rfl _ _ 73 rfl w.heap.size 3 i0 _ 1 8 Tryz.underlying73 hii hz0 hz1 hz2 rfl (by decide) _ j _ rfl hinl'.out _ 1 1 _ rfl hsl1'.out (by simp [Value.oneCell']) (by omega) (by decide) hin1'.out.bel.size ?_; intro a5 c5 w5 ob hb5 hg5; have Ob := Lib.hid ob; have Hg5 := Lib.hid hg5; clear ob hb5 hg5)
      have hin2 := hin1'.out.add (sv2 := .slice a5 (j + 1) c5) (ks2 := (List.range (j + 1)).map (subN f d.2.1 no)) (by rw [hKs'.out, ints_append, List.length_append, List.length_map, List.length_range]; exact Ob.out) Hg5.out
      clear d1 Ob Hg5 hal' hin1' hsl1' hinl'
      have hqt := (Below.refl w5.heap.size w5).drew
      obtain ⟨Ty, ff, hne, hcl, hsurj⟩ := pred_worlds (fun W => Below w.heap.size w W ∧ Blk W w.heap.size 42 (dvA ta tn tc (some ⟨xb, xo, none⟩) sn sc ba bn bc)) w5 ⟨hin2.bel, hin2.bA⟩
      have hinD := hin2.later hqt
      have HS := Lib.hid (hsurj w5.drew ⟨hinD.bel, hinD.bA⟩)
      have hbl0 : ∀ s, Below w0.heap.size w0 (ff s) := fun s => hb0'.out.trans ((hcl s).1.mono hb0'.out.size)
      have q1 : ∀ s, (ff s).cell? ⟨w.heap.size, 1, none⟩ = some (.slice (some ⟨xb, xo, none⟩) sn sc) := fun s => (hcl s).2.cell rfl
      have p0 : ∀ s, (ff s).cell? ⟨xb, xo + j * 4, none⟩ = some (.int .i64 y) := fun s => late (hbl0 s) hblt2 g0
      have p1 : ∀ s, (ff s).cell? ⟨xb, xo + j * 4 + 1, none⟩ = some (.slice ua un uc) := fun s => late (hbl0 s) hblt2 g1
      have p2 : ∀ s, (ff s).cell? ⟨xb, xo + j * 4 + 2, none⟩ = some (.slice ra rn rc) := fun s => late (hbl0 s) hblt2 g2
      have p3 : ∀ s, (ff s).cell? ⟨xb, xo + j * 4 + 3, none⟩ = some (.slice xa xn xc) := fun s => late (hbl0 s) hblt2 g3
      obtain ⟨rb, ro, rfl, hrlt, fe⟩ := hsh'.out.row.elem shc_len (by decide) shz0 hi
      rw [hz'.out] at fe
      have r0 : ∀ s, (ff s).cell? ⟨rb, ro + i * 4, none⟩ = some (.slice (some ⟨b3, o3, none⟩) ln lc) := fun s => late (hbl0 s) hrlt (fe 0 _ rfl)
      have r1 : ∀ s, (ff s).cell? ⟨rb, ro + i * 4 + 1, none⟩ = some (.int .i64 sat) := fun s => late (hbl0 s) hrlt (fe 1 _ rfl)
      have r2 : ∀ s, (ff s).cell? ⟨rb, ro + i * 4 + 2, none⟩ = some (.int .i64 slong) := fun s => late (hbl0 s) hrlt (fe 2 _ rfl)
      have r3 : ∀ s, (ff s).cell? ⟨rb, ro + i * 4 + 3, none⟩ = some (.int .i64 snx) := fun s => late (hbl0 s) hrlt (fe 3 _ rfl)
      have q5 : ∀ s, (ff s).cell? ⟨b3, o3 + kx * 2 + 1, none⟩ = some (.int .i64 si) := fun s => late (hbl0 s) hblt3 l1
      clear fe
      obtain ⟨wD, hwD⟩ : ∃ wD, w5.drew = wD := ⟨_, rfl⟩
      rw [hwD] at HS hinD
      have hbD := hb0'.out.trans (hinD.bel.mono hb0'.out.size)
      obtain ⟨a0, c0, rfl, hbs, _⟩ := hinD.b
      have hin2' := Lib.hid hin2
      have hqt' := Lib.hid hqt
      have hcl' := Lib.hid hcl
      have hsurj' := Lib.hid hsurj
      have hinD' := Lib.hid hinD
      have hbl0' := Lib.hid hbl0
      have hbD' := Lib.hid hbD
      have hbs' := Lib.hid hbs
      clear hin2 hqt hcl hsurj hinD hbl0 hbD hbs
      go_wp2_with fail
      refine held_begin (S := fun W => ∃ s, W = ff s) (by kernel_rfl) 36 rfl ?_
      rw [hwD]
      refine held_take [0, 1, 2, 3, 4, 5, 6, 7, 8, 9, 10, 11, 12, 13, 14, 15, 16, 17, 18, 19, 20, 21, 22, 23, 24, 29] 10 (by kernel_rfl) (fun d _ _ _ _ h => by cases d <;> exact h) (by kernel_rfl) (by kernel_rfl) (by kernel_rfl) HS.out ?_
      simp only [pickL, List.map_cons, List.map_nil, List.getD_cons_succ, List.getD_cons_zero]
      iterate 26 (go_big_quiet_step (fail))
      refine wpQuiet_nil ?_
      refine held_one 25 9 (by kernel_rfl) (by kernel_rfl) ?_
      simp only [pickL, List.map_cons, List.map_nil, List.getD_cons_succ, List.getD_cons_zero]
      go_wp2_with fail
      refine (hLK'.out _ hbD'.out).mono ?_
      rintro e w6 ⟨rfl, hb6⟩
      have hin6 := hinD'.out.later hb6
      have hbd6 := hb0'.out.trans (hin6.bel.mono hb0'.out.size)
      have HS := Lib.hid (hsurj'.out _ ⟨hin6.bel, hin6.bA⟩)
      have hI := ih'.out w0 w6 _ _ _ dd (.slice ua un uc, .slice ra rn rc, .slice xa xn xc) ns si (hbs'.out.mono hb6) hbd6 hsp'.out hsh'.out hq2'.out hsm'.out hbyd'.out hok'.out hkh'.out hkW'.out (by have := hsbI'.out; omega) (by have := hNl'.out; omega) (by have := hNs'.out; have := hNl2'.out; have := hfl'.out; omega) hn
      simp only at hI
      rw [← hNs'.out] at hI
      have hb6' := Lib.hid hb6
      have hin6' := Lib.hid hin6
      have hbd6' := Lib.hid hbd6
      have hI' := Lib.hid hI
      clear hb6 hin6 hbd6 hI
      go_wp2_with fail
      first | refine Mid.mk ⟨HS.out, ?_⟩ | refine Mid.mk ?_
      refine held_take [26, 27, 28] 6 (by kernel_rfl) (fun d _ _ _ _ h => by cases d <;> exact h) (by kernel_rfl) (by kernel_rfl) (by kernel_rfl) HS.out ?_
      simp only [pickL, List.map_cons, List.map_nil, List.getD_cons_succ, List.getD_cons_zero]
      iterate 3 (go_big_quiet_step (fail))
      refine wpQuiet_nil ?_
      clear q1 q5 p0 p1 p2 p3 r0 r1 r2 r3 hwD
      refine held_one 30 5 (by kernel_rfl) (by kernel_rfl) ?_
      simp only [pickL, List.map_cons, List.map_nil, List.getD_cons_succ, List.getD_cons_zero]
      go_wp2_with fail
      refine hI'.out.mono ?_
      rintro e w7 ⟨a7, c7, rfl, ho7, hb7⟩
      have hin7 := hin6'.out.put hb7 ho7
      rw [← apP_append, ← hPs'.out] at hin7
      have HS := Lib.hid (hsurj'.out _ ⟨hin7.bel, hin7.bA⟩)
      have hb7' := Lib.hid hb7
      have ho7' := Lib.hid ho7
      have hin7' := Lib.hid hin7
      clear hb7 ho7 hin7
      go_wp2_with fail
      first | refine Mid.mk ⟨HS.out, ?_⟩ | refine Mid.mk ?_
      refine held_take [31, 32, 33, 34, 35] 0 (by kernel_rfl) (fun d _ _ _ _ h => by cases d <;> exact h) (by kernel_rfl) (by kernel_rfl) (by kernel_rfl) HS.out ?_
      simp only [pickL, List.map_cons, List.map_nil, List.getD_cons_succ, List.getD_cons_zero]
      iterate 5 (go_big_quiet_step (fail))
      refine wpQuiet_nil ?_
      refine held_last (by kernel_rfl) ?_
      go_wp2_with fail
      go_roundw
      case rel => exact ⟨j + 1, by omega, by go_num, rfl, hin7'⟩
      case measure => simp [intOf]; omega
    · obtain rfl : j = sn := by omega
      have hNa := subN_all f d.2.1 no
      rw [hsn'.out] at hNa
      have hDw : apP (dirQ (shps zs) l o (f + 1) d no i) P = apP (putP f l o no (lks, sat, slong, snx) d) (apP (subP (dirQ (shps zs) l o f) (lks, sat, slong, snx) d.2.1 no j) P) := by
        rw [hD'.out, hsn'.out, apP_append]
      obtain ⟨P2, hP2⟩ : ∃ P2, apP (subP (dirQ (shps zs) l o f) (lks, sat, slong, snx) d.2.1 no j) P = P2 := ⟨_, rfl⟩
      have hN2 : no + ((flatS (f + 1) d).length : Int) = subN f d.2.1 no j := by rw [hNa, hfl'.out]; omega
      obtain ⟨n2, hn2⟩ : ∃ n2, subN f d.2.1 no j = n2 := ⟨_, rfl⟩
      have hWo := hWr.out
      rw [hP2] at hDw hWo
      rw [hn2] at hN2
      have hqt := (Below.refl wr.heap.size wr).drew
      obtain ⟨Ty, ff, hne, hcl, hsurj⟩ := pred_worlds (fun W => Below w.heap.size w W ∧ Blk W w.heap.size 42 (dvA ta tn tc sa j sc ba bn bc)) wr ⟨hWo.bel, hWo.bA⟩
      have hinD := hWo.later hqt
      have HS := Lib.hid (hsurj wr.drew ⟨hinD.bel, hinD.bA⟩)
      have hbl0 : ∀ s, Below w0.heap.size w0 (ff s) := fun s => hb0'.out.trans ((hcl s).1.mono hb0'.out.size)
      have q0 : ∀ s, (ff s).cell? ⟨w.heap.size, 0, none⟩ = some (.slice ta tn tc) := fun s => (hcl s).2.cell rfl
      have q1 : ∀ s, (ff s).cell? ⟨w.heap.size, 1, none⟩ = some (.slice sa j sc) := fun s => (hcl s).2.cell rfl
      have q2 : ∀ s, (ff s).cell? ⟨w.heap.size, 2, none⟩ = some (.slice ba bn bc) := fun s => (hcl s).2.cell rfl
      obtain ⟨rb, ro, rfl, hrlt, fe⟩ := hsh'.out.row.elem shc_len (by decide) shz0 hi
      rw [hz'.out] at fe
      have r0 : ∀ s, (ff s).cell? ⟨rb, ro + i * 4, none⟩ = some (.slice la ln lc) := fun s => late (hbl0 s) hrlt (fe 0 _ rfl)
      have r1 : ∀ s, (ff s).cell? ⟨rb, ro + i * 4 + 1, none⟩ = some (.int .i64 sat) := fun s => late (hbl0 s) hrlt (fe 1 _ rfl)
      have r2 : ∀ s, (ff s).cell? ⟨rb, ro + i * 4 + 2, none⟩ = some (.int .i64 slong) := fun s => late (hbl0 s) hrlt (fe 2 _ rfl)
      have r3 : ∀ s, (ff s).cell? ⟨rb, ro + i * 4 + 3, none⟩ = some (.int .i64 snx) := fun s => late (hbl0 s) hrlt (fe 3 _ rfl)
      clear fe
      obtain ⟨wD, hwD⟩ : ∃ wD, wr.drew = wD := ⟨_, rfl⟩
      rw [hwD] at HS hinD
      obtain ⟨a0, c0, rfl, hbs, _⟩ := hinD.b
      obtain ⟨ya, yc, rfl⟩ : ∃ a c, u17 = .slice a j c := by
        have h := hinD.l.2
        rw [List.length_map, List.length_range] at h
        rcases h with ⟨rfl, h0⟩ | ⟨g, cap, cur, rfl, _⟩
        · exact ⟨none, 0, by rw [h0]⟩
        · exact ⟨_, _, rfl⟩
      have hls := hinD.l
      rw [List.length_map, List.length_range] at hls
      have hPu := rput_any f n a0 c0 P2 spa spn spc l d (.slice ta tn tc, .slice sa j sc, .slice ba bn bc) no la ln lc lks sat slong snx ya j yc o wD hbs (hsp'.out.mono (hb0'.out.trans (hinD.bel.mono hb0'.out.size))) (hd'.out.mono (hb0'.out.trans (hinD.bel.mono hb0'.out.size))) hs'.out hby'.out (by rw [hsn'.out]; exact (Sl.of_own hls).1) htg2'.out hn k1'.out k3'.out k4'.out k5'.out k6'.out k7 k8'.out k9'.out
      simp only at hPu
      have hDw' := Lib.hid hDw
      have hP2' := Lib.hid hP2
      have hN2' := Lib.hid hN2
      have hn2' := Lib.hid hn2
      have hWo' := Lib.hid hWo
      have hqt' := Lib.hid hqt
      have hcl' := Lib.hid hcl
      have hsurj' := Lib.hid hsurj
      have hbl0' := Lib.hid hbl0
      have hinD' := Lib.hid hinD
      have hbs' := Lib.hid hbs
      have hls' := Lib.hid hls
      have hPu' := Lib.hid hPu
      have hNa' := Lib.hid hNa
      clear hDw hP2 hN2 hn2 hWo hqt hcl hsurj hbl0 hinD hbs hls hPu hNa
      rw [hn2'.out]
      go_wp2_with fail
      clear d1
      refine held_begin (S := fun W => ∃ s, W = ff s) (by kernel_rfl) 14 rfl ?_
      rw [hwD]
      refine held_take [0, 1, 2, 3, 4, 5, 6, 7, 8, 9, 11] 3 (by kernel_rfl) (fun d _ _ _ _ h => by cases d <;> exact h) (by kernel_rfl) (by kernel_rfl) (by kernel_rfl) HS.out ?_
      simp only [pickL, List.map_cons, List.map_nil, List.getD_cons_succ, List.getD_cons_zero]
      iterate 11 (go_big_quiet_step (fail))
      refine wpQuiet_nil ?_
      clear q0 q1 q2 r0 r1 r2 r3 hwD
      refine held_one 10 2 (by kernel_rfl) (by kernel_rfl) ?_
      simp only [pickL, List.map_cons, List.map_nil, List.getD_cons_succ, List.getD_cons_zero]
      go_wp2_with fail
      refine hPu'.out.mono ?_
      rintro e w7 ⟨a7, c7, rfl, ho7, hb7⟩
      have hbz := hinD'.out.bel.trans (hb7.mono hinD'.out.bel.size)
      have HS := Lib.hid (hsurj'.out _ ⟨hbz, hinD'.out.bA.late hb7⟩)
      have hb7' := Lib.hid hb7
      have ho7' := Lib.hid ho7
      have hbz' := Lib.hid hbz
      clear hb7 ho7 hbz
      go_wp2_with fail
      first | refine Mid.mk ⟨HS.out, ?_⟩ | refine Mid.mk ?_
      refine held_take [12, 13] 0 (by kernel_rfl) (fun d _ _ _ _ h => by cases d <;> exact h) (by kernel_rfl) (by kernel_rfl) (by kernel_rfl) HS.out ?_
      simp only [pickL, List.map_cons, List.map_nil, List.getD_cons_succ, List.getD_cons_zero]
      iterate 2 (go_big_quiet_step (fail))
      refine wpQuiet_nil ?_
      refine held_last (by kernel_rfl) ?_
      go_wp2_with fail
      refine bodyPost_ret (results_tmp2 rfl _ _ _) rfl ?_
      rw [hN2'.out, hDw'.out]
      exact ⟨a7, c7, rfl, own_mono ho7'.out hinD'.out.bel.size, hbz'.out⟩
theorem rwrt_any (zs : List Shz) (qa : Option Addr) (qn qc : Nat) (spa : Option Addr) (spn spc : Nat) (l : List Spt) (n : Nat) (o : Int) : ∀ f, RWrt zs qa qn qc spa spn spc l n o f := by
  intro f
  induction f with
  | zero => intro w0 w pa pc P d dv no i _ _ _ _ hd; exact hd.elim
  | succ f ih => exact rwrt_step zs qa qn qc spa spn spc l n o f ih
end Go.Proofs.YtilennmeiaehnaaGreat
