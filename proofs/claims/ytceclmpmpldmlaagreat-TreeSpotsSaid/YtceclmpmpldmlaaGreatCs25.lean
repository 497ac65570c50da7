/- Chapter 21: Check: the program. -/
import Derived.Test.YtceclmpmpldmlaaGreatCs21
import Derived.Test.YtceclmpmpldmlaaGreatCs24
import Derived.Test.YtceclmpmpldmlaaGreatCs03
namespace Go.Proofs.YtceclmpmpldmlaaGreat
open Go.RowKit Tt
set_option linter.unusedVariables false
set_option linter.unusedSimpArgs false

theorem plof_any (f : Nat) (o : Int) (sa : Option Addr) (sn sc : Nat) (ds : List (DirT f)) (w : World) (h : DirsR f w sa sn sc ds) (hs : ∀ d ∈ ds, smallD f d) (hby : ∀ d ∈ ds, bytD f d) (hN : (flatT f ds).length < 1000) :
    Calls Tryz.prog 11 #[.agg #[.int .i64 o, .slice sa sn sc]] w fun e w' => ((fitT f ds = true ∧ ∃ v, e = .returned (.tuple #[v, .bool true]) ∧ Spr w.heap.size w' v (layT f ds)) ∨ (fitT f ds = false ∧ e = .returned (.tuple #[.slice none 0 0, .bool false]))) ∧ Below w.heap.size w w' :=
  plof_may f o sa sn sc ds w h hs hN fun W hW => pmay_any f o sa sn sc ds W (h.mono hW) hs hby
theorem plng_any (f : Nat) (o : Int) (sa : Option Addr) (sn sc : Nat) (ds : List (DirT f)) (w : World) (h : DirsR f w sa sn sc ds) (hs : ∀ d ∈ ds, smallD f d) (hby : ∀ d ∈ ds, bytD f d) (hN : (flatT f ds).length < 1000) :
    Calls Tryz.prog 12 #[.agg #[.int .i64 o, .slice sa sn sc]] w fun e w' => e = .returned (.int .i64 (longT f ds)) ∧ Below w.heap.size w w' :=
  plng_may f o sa sn sc ds w h hs hN fun W hW => pmay_any f o sa sn sc ds W (h.mono hW) hs hby
theorem infoI64 : (Tryz.prog.info? 3).map (fun i => (i.zero, i.size, i.bytes)) = some (some (.int .i64 0), 1, 8) := by kernel_rfl
def slen : Value → Nat
  | .slice _ n _ => n
  | _ => 0
def nxts (L : List Shp) (n : Nat) : List Int := (List.range n).map (nxtS L)
theorem nxts_succ (L : List Shp) (n : Nat) : nxts L (n + 1) = nxts L n ++ [nxtS L n] := by unfold nxts; rw [List.range_succ, List.map_append]; rfl
theorem nxts_len (L : List Shp) (n : Nat) : (nxts L n).length = n := by unfold nxts; simp
set_option maxRecDepth 20000 in
set_option maxHeartbeats 8000000 in
theorem pcheck_any (f : Nat) (o : Int) (sa : Option Addr) (sn sc : Nat) (ds : List (DirT f)) (a : Option Addr) (n c : Nat) (zs : List Shz) (w : World) (h : DirsR f w sa sn sc ds) (hz : ShR w a n c zs) (hs : ∀ d ∈ ds, smallD f d) (hby : ∀ d ∈ ds, bytD f d) (hN : (flatT f ds).length < 1000) (hsn : sn ≤ 500) :
    Calls Tryz.prog 13 #[.agg #[.int .i64 o, .slice sa sn sc], .slice a n c] w fun e w' => e = .returned (.int .i64 (checkS f o ds (shps zs))) ∧ Below w.heap.size w w' := by
  have hb1 := (Below.refl w.heap.size w).alloc (Nat.le_refl _) (.cells #[.int .i64 o, .slice sa sn sc] 39); have bk := Blk.new w 39 #[.int .i64 o, .slice sa sn sc]; obtain ⟨W1, hW1⟩ : ∃ W1, w.alloc (.cells #[.int .i64 o, .slice sa sn sc] 39) = W1 := ⟨_, rfl⟩; rw [hW1] at hb1 bk; have hSh := shapes_any a n c zs W1 (hz.mono hb1); have hzl := hz.len; have hzle := hz.row.le; have hzmx := hz.row.max; obtain ⟨R, hR⟩ : ∃ R, checkS f o ds (shps zs) = R := ⟨_, rfl⟩; rw [hR]; unfold checkS at hR
  have hdn : ds.length = sn := by
    obtain ⟨dvs, hdl, hsl, _⟩ := h; rw [← hdl]; exact hsl.flen dvC_len (by decide)
  obtain ⟨shb, hshb⟩ : ∃ b, shapesB (shps zs) = b := ⟨_, rfl⟩; rw [hshb] at hSh hR; rw [hdn] at hR; obtain ⟨i0, hi0, hz0, hz1, hz2⟩ := info_parts infoI64; have h' := Lib.hid h; have hz' := Lib.hid hz; have hs' := Lib.hid hs; have hby' := Lib.hid hby
  have hN' := Lib.hid hN; have bk' := Lib.hid bk; have hb1' := Lib.hid hb1; have hW1' := Lib.hid hW1; have hSh' := Lib.hid hSh; have hzl' := Lib.hid hzl; have hR' := Lib.hid hR; have hdn' := Lib.hid hdn; have hshb' := Lib.hid hshb; clear h hz hs hby hN bk hb1 hW1 hSh hzl hR hdn hshb
  go_enter Tryz.func13, Tryz.ntmps13
  go_wp2_with fail
  refine ((by rw [hW1'.out]; exact hSh'.out) : Calls Tryz.prog 47 _ _ _).mono ?_; rintro e w2 ⟨rfl, hb2⟩; have bk2 := bk'.out.late hb2; have hbw2 := hb1'.out.trans (hb2.mono hb1'.out.size)
  cases shb with
  | false =>
    obtain rfl : R = 1 := by rw [← hR'.out]; rfl
    have hb2' := Lib.hid hb2; have bk2' := Lib.hid bk2; have hbw2' := Lib.hid hbw2; clear hb2 bk2 hbw2
    go_wp2_with fail
    go_ret
    exact ⟨rfl, hbw2'.out⟩
  | true =>
  have c0 : w2.cell? ⟨w.heap.size, 0, none⟩ = some (.int .i64 o) := bk2.cell rfl; have c1 : w2.cell? ⟨w.heap.size, 1, none⟩ = some (.slice sa sn sc) := bk2.cell rfl; rw [Bool.true_and] at hR'
  by_cases ho : o = 1 ∨ o = 2
  case neg =>
    have h1 : (o != 1) = true := by simp; omega
    have h2 : (o != 2) = true := by simp; omega
    obtain rfl : R = 1 := by rw [← hR'.out, decide_eq_false (show ¬ o = 1 by omega), decide_eq_false (show ¬ o = 2 by omega)]; rfl
    clear ho; have hb2' := Lib.hid hb2; have bk2' := Lib.hid bk2; have hbw2' := Lib.hid hbw2; clear hb2 bk2 hbw2
    go_wp2_with fail
    go_ret
    exact ⟨rfl, hbw2'.out⟩
  case pos =>
  have hoB : (decide (o = 1) || decide (o = 2)) = true := by simpa using ho
  rw [hoB, Bool.true_and] at hR'; clear hoB
  rcases ho with rfl | rfl
  · have h1 : ((1 : Int) != 1) = false := by simp
    have h2 : True := trivial
    by_cases hs0 : sn = 0
    · have h3 : ((sn : Int) == 0) = true := by simp [hs0]
      have h4 : (sn == 0) = true := by simp [hs0]
      obtain rfl : R = 1 := by rw [← hR'.out, decide_eq_true hs0]; rfl
      clear hs0; have hb2' := Lib.hid hb2; have bk2' := Lib.hid bk2; have hbw2' := Lib.hid hbw2; clear hb2 bk2 hbw2
      go_wp2_with fail
      go_ret
      exact ⟨rfl, hbw2'.out⟩
    · have h3 : ((sn : Int) == 0) = false := by simp; omega
      have h4 : (sn == 0) = false := by simp; omega
      rw [decide_eq_false hs0, if_pos (by rfl)] at hR'; have hb2' := Lib.hid hb2; have bk2' := Lib.hid bk2; have hbw2' := Lib.hid hbw2; clear hb2 bk2 hbw2
      go_wp2_with fail
      clear h1 h2 h3 h4 c0 c1
      go_loopw [5, 6] (fun v iv wr => ∃ (k : Nat) (xa : Option Addr) (xc : Nat), k ≤ sn ∧ v = .slice xa k xc ∧ iv = .int .i64 (nxtS (shps zs) k) ∧ Hid (wr.ownsRow w2.heap.size 3 1 (.slice xa k xc) k (ints .i64 (nxts (shps zs) k))) ∧ Hid (chainB (shps zs) k = true) ∧ Hid (Below w2.heap.size w2 wr)) (fun v _ _ => sn - slen v)
      case atStart => exact ⟨0, none, 0, by omega, rfl, rfl, Lib.hid (own_nil _ _ _ _), Lib.hid rfl, Lib.hid (Below.refl _ _)⟩
      case round =>
        obtain ⟨k, xa, xc, hk, rfl, rfl, hown, hch, hb⟩ := hrel; have bkr := bk2'.out.late hb.out; have c1 : wr.cell? ⟨w.heap.size, 1, none⟩ = some (.slice sa sn sc) := bkr.cell rfl; have hnx := nxt_lt hshb'.out k; have hzl2 : (shps zs).length = n := by unfold shps; rw [List.length_map]; exact hzl'.out
        rw [hzl2] at hnx; have hst := chainB_step (L := shps zs) (n := k); rw [hch.out, Bool.true_and] at hst; have hno := fun (hlt : k < sn) hh => chainB_no (L := shps zs) (n := sn) (k := k) hlt hh; have hnS : nxtS (shps zs) (k + 1) = ((shps zs).getD (nxtS (shps zs) k).toNat shp0).2.2.2 := rfl; have hxs := nxts_succ (shps zs) k; obtain ⟨at_, hat⟩ : ∃ x, nxtS (shps zs) k = x := ⟨_, rfl⟩; rw [hat] at hnx hst hno hnS hxs ⊢; have bkr' := Lib.hid bkr; have hst' := Lib.hid hst; have hno' := Lib.hid hno; have hnS' := Lib.hid hnS; have hxs' := Lib.hid hxs; have hat' := Lib.hid hat; clear bkr hst hno hnS hxs hat
        go_upto_region 5 with fail
        go_cut [37] from 28 to 37 (fun v wx => v = .bool (decide (0 ≤ at_) && decide (k < sn)) ∧ wr = wx)
        case first =>
          by_cases ha : 0 ≤ at_
          · have ha1 : decide (0 ≤ at_) = true := by simp; omega
            by_cases hks : k < sn
            · have hk3 : decide ((k : Int) < (sn : Int)) = true := by simp; omega
              have hk4 : decide (k < sn) = true := by simp; omega
              go_wp2_with fail
              go_meet
              exact ⟨by rw [ha1, hk4]; rfl, rfl⟩
            · have hk3 : decide ((k : Int) < (sn : Int)) = false := by simp; omega
              have hk4 : decide (k < sn) = false := by simp; omega
              go_wp2_with fail
              go_meet
              exact ⟨by rw [ha1, hk4]; rfl, rfl⟩
          · have ha1 : decide (0 ≤ at_) = false := by simp; omega
            go_wp2_with fail
            go_meet
            exact ⟨by rw [ha1]; rfl, rfl⟩
        case rest =>
        obtain ⟨rfl, rfl⟩ := hcut; clear c1
        by_cases hgo : 0 ≤ at_ ∧ k < sn
        · obtain ⟨ha, hks⟩ := hgo
          rw [decide_eq_true ha, decide_eq_true hks]; obtain ⟨ai, rfl⟩ : ∃ ai : Nat, at_ = ai := ⟨at_.toNat, by omega⟩; have hin : (ai : Int) < n := by omega
          have hin2 : ai < n := by omega
          have hbw0 := hbw2'.out.trans (hb.out.mono hbw2'.out.size); have hzr := hz'.out.mono hbw0; obtain ⟨b, o2, rfl, hblt, fe⟩ := hzr.row.elem shc_len (by decide) shz0 hin2; rw [Int.toNat_natCast, shps_get (by rw [hzl'.out]; exact hin2)] at hnS'; have f3 := fe 3 _ rfl; rw [← hnS'.out] at f3; clear fe; have hnew := Sl.new' wr 3 1 1 (ints .i64 [(ai : Int)]).toArray (0, 0) (by first | rfl | simp) (by omega) rfl; have hch2 : chainB (shps zs) (k + 1) = true := hst'.out.trans (decide_eq_true (by omega)); have hal := (Below.refl wr.heap.size wr).alloc (Nat.le_refl _) (.cells #[.int .i64 ai] 3)
          have hblt0 : b < w2.heap.size := by
            obtain ⟨b', o', e, hb', _⟩ := (hz'.out.mono hbw2'.out).row.elem shc_len (by decide) shz0 hin2; injection e with e; injection e with e1 e2; omega
          have hbw0' := Lib.hid hbw0; have hzr' := Lib.hid hzr; have hnew' := Lib.hid hnew; have hch2' := Lib.hid hch2; have hal' := Lib.hid hal; clear hbw0 hzr hnew hch2 hal
          go_wp2_with (at_builtin; refine wpList_app rfl _ _ 102 rfl w2.heap.size 3 i0 _ 1 8 Tryz.underlying102 hi0 hz0 hz1 hz2 rfl (by decide) _ k _ rfl (World.ownsRow.alloc hown.out _) _ 1 1 (ints .i64 [(ai : Int)]) rfl hnew'.out ints_one (by omega) (by decide) (by have := hb.out.size; simp; omega) ?_; intro a5 c5 w5 ob hb5 hg5; have Ob := Lib.hid ob; have Hb5 := Lib.hid ((hb.out.trans (hal'.out.mono hb.out.size)).trans hb5); have f5 : w5.cell? ⟨b, o2 + ai * 4 + 3, none⟩ = some (.int .i64 (nxtS (shps zs) (k + 1))) := (hb5.cell hblt0).trans ((hal'.out.cell (Nat.lt_of_lt_of_le hblt0 hb.out.size)).trans f3); clear ob hb5 hg5)
          go_roundw
          case rel => exact ⟨k + 1, a5, c5, by omega, rfl, rfl, Lib.hid (by rw [hxs'.out, ints_append]; exact Ob.out), hch2', Hb5⟩
          case measure => simp [slen]; omega
        · have hgB : (decide (0 ≤ at_) && decide (k < sn)) = false := by
            by_cases ha : 0 ≤ at_
            · rw [decide_eq_true ha, decide_eq_false (show ¬ k < sn by omega)]; rfl
            · rw [decide_eq_false ha]; rfl
          rw [hgB]; have c1 : wr.cell? ⟨w.heap.size, 1, none⟩ = some (.slice sa sn sc) := bkr'.out.cell rfl; have hbwr := hbw2'.out.trans (hb.out.mono hbw2'.out.size)
          by_cases hks : k < sn
          · obtain rfl : R = 1 := by
              have hcn := hno'.out hks (by omega); rw [← hR'.out, hcn]; rfl
            have hks2 : (k : Int) < sn := by omega
            have hk3 : decide ((k : Int) < (sn : Int)) = true := by simp; omega
            have hbwr' := Lib.hid hbwr; clear hbwr
            go_wp2_with fail
            go_ret
            exact ⟨rfl, hbwr'.out⟩
          · obtain rfl : k = sn := by omega
            have hcr := hch.out; rw [hch.out, if_pos (by rfl)] at hR'; have hk3 : decide ((k : Int) < (k : Int)) = false := by simp
            have hk5 : ¬ (k : Int) < (k : Int) := by omega
            have hchr := (Sl.of_own hown.out).1; have hbwr' := Lib.hid hbwr; have hcr' := Lib.hid hcr; have hchr' := Lib.hid hchr; clear hbwr hcr hchr; clear hgo hgB hk hks hnx
            go_wp2_with fail
            clear c1
            go_loopw [56] (fun iv wx => ∃ i : Nat, i ≤ k ∧ iv = .int .i64 i ∧ Hid (∀ j, j < i → hasS (shps zs) f (ds.getD j (dirZ f)) (nxtS (shps zs) j) = true) ∧ Hid (Below wr.heap.size wr wx)) (fun iv _ => k - (intOf iv).toNat)
            case atStart => exact ⟨0, by omega, rfl, Lib.hid (fun j hj => by omega), Lib.hid (Below.refl _ _)⟩
            case round =>
              obtain ⟨i, hi, rfl, hall, hbx⟩ := hrel; have hbwx := hbwr'.out.trans (hbx.out.mono hbwr'.out.size)
              by_cases hlt : i < k
              · obtain ⟨dvs, hdl, hsl, hsub⟩ := h'.out
                have hid : i < ds.length := by rw [hdn'.out]; exact hlt
                have hids : i < dvs.length := by rw [hdl]; exact hid
                obtain ⟨b, o2, rfl, hblt, fe⟩ := (hsl.mono hbwx).elem dvC_len (by decide) dzz hlt; rw [getD_el hids] at fe; have hq2 := hsub i hids hid; obtain ⟨ua, un, uc, ra, rn, rc, ya, yn, yc, hv⟩ := hq2.v; have g0 := fe 0 _ rfl; have g1 := fe 1 _ rfl; have g2 := fe 2 _ rfl; clear fe hsl hsub; rw [hv] at hq2 g0 g1 g2; simp only [Nat.add_zero] at g0 g1 g2; have hw1 : IntKind.i64.wrap ((i : Int) + 1) = i + 1 := by rw [IntKind.wrap_i64]; omega
                have hil : (i : Int) < (k : Int) := by omega
                have hil0 : (0 : Int) ≤ (i : Int) := by omega
                have hni := nxt_lt hshb'.out i; rw [hzl2] at hni
                have hni0 : 0 ≤ nxtS (shps zs) i := by
                  have := List.all_eq_true.1 hcr'.out i (List.mem_range.2 hlt)
                  simpa using this
                obtain ⟨si, hsi⟩ : ∃ si : Nat, nxtS (shps zs) i = si := ⟨(nxtS (shps zs) i).toNat, by omega⟩; have hgi : ds.getD i (dirZ f) = ds[i] := by rw [getD_el hid]
                have hRno : hasS (shps zs) f ds[i] si = false → R = 6 := fun hh => by
                  have : hasAll (shps zs) f ds = false := rng_no (k := i) (by rw [hdn'.out]; exact hlt) (by rw [hgi, hsi]; exact hh); rw [← hR'.out, this]; rfl
                have hall2 : hasS (shps zs) f ds[i] si = true → ∀ j, j < i + 1 → hasS (shps zs) f (ds.getD j (dirZ f)) (nxtS (shps zs) j) = true := fun hv j hj => by
                  by_cases hjk : j = i
                  · subst hjk; rw [hgi, hsi]; exact hv
                  · exact hall.out j (by omega)
                have hal := (Below.refl wr.heap.size wr).alloc (Nat.le_refl _) (.cells #[.slice ua un uc, .slice ra rn rc, .slice ya yn yc] 26); have bd := Blk.new wr 26 #[.slice ua un uc, .slice ra rn rc, .slice ya yn yc]; have hb3 := hbx.out.trans (hal.mono hbx.out.size); have hbw3 := hbwr'.out.trans (hb3.mono hbwr'.out.size); have hch3 := hchr'.out.mono hb3; have hsm := hs'.out _ (List.getElem_mem hid); have hbyd := hby'.out _ (List.getElem_mem hid)
                generalize ds[i] = dd at *
                have hdl' := Lib.hid hdl; have hq2' := Lib.hid hq2; have hv' := Lib.hid hv; have hni' := Lib.hid hni; have hRno' := Lib.hid hRno; have hall2' := Lib.hid hall2; have hal' := Lib.hid hal; have bd' := Lib.hid bd; have hb3' := Lib.hid hb3; have hbw3' := Lib.hid hbw3; have hch3' := Lib.hid hch3; have hsi' := Lib.hid hsi; have hgi' := Lib.hid hgi; have hsm' := Lib.hid hsm; have hbyd' := Lib.hid hbyd; clear hdl hq2 hv hni hRno hall2 hal bd hb3 hbw3 hch3 hsi hgi hsm hbyd
                go_wp2_with fail
                obtain ⟨w3, hw3⟩ : ∃ w3, wr.alloc (.cells #[.slice ua un uc, .slice ra rn rc, .slice ya yn yc] 26) = w3 := ⟨_, rfl⟩; rw [hw3] at bd' hb3' hbw3' hch3' ⊢; clear g0 g1 g2; obtain ⟨g3, hg3⟩ : ∃ g3, wr.heap.size = g3 := ⟨_, rfl⟩; rw [hg3] at bd' ⊢; obtain ⟨xb, xo, rfl, hxlt, hxc⟩ := hch3'.out.at hlt; have hx1 := hxc i _ (ints_get (by rw [nxts_len]; exact hlt))
                have hxe : (nxts (shps zs) k).getD i 0 = si := by
                  unfold nxts; rw [List.getD_eq_getElem?_getD, List.getElem?_map, List.getElem?_range hlt]; exact hsi'.out
                rw [hxe] at hx1; clear hxc; obtain ⟨Ty, ff, hne, hbel, hsurj⟩ := later_worlds w3; have HS := Lib.hid (hsurj _ ((Below.refl _ _).drew)); have q0 : ∀ s, (ff s).cell? ⟨g3, 0, none⟩ = some (.slice ua un uc) := fun s => (bd'.out.late (hbel s)).cell rfl; have q1 : ∀ s, (ff s).cell? ⟨g3, 1, none⟩ = some (.slice ra rn rc) := fun s => (bd'.out.late (hbel s)).cell rfl; have q2 : ∀ s, (ff s).cell? ⟨g3, 2, none⟩ = some (.slice ya yn yc) := fun s => (bd'.out.late (hbel s)).cell rfl; have q3 : ∀ s, (ff s).cell? ⟨xb, xo + i, none⟩ = some (.int .i64 si) := fun s => late (hbel s) hxlt hx1; have hHS := fun s => has_any zs a n c f w (ff s) dd (.slice ua un uc, .slice ra rn rc, .slice ya yn yc) si hz'.out (hbw3'.out.trans ((hbel s).mono hbw3'.out.size)) hq2'.out hsm'.out hbyd'.out hshb'.out (by have := hni'.out; have := hsi'.out; omega); simp only at hHS; obtain ⟨hb, hhb⟩ : ∃ hb, hasS (shps zs) f dd si = hb := ⟨_, rfl⟩; rw [hhb] at hHS hRno' hall2'; clear hx1 hxe; have hbel' := Lib.hid hbel; have hsurj' := Lib.hid hsurj; have hHS' := Lib.hid hHS; have hhb' := Lib.hid hhb; have hxlt' := Lib.hid hxlt; have hw3' := Lib.hid hw3; have hg3' := Lib.hid hg3; clear hbel hsurj hHS hhb hxlt hw3 hg3
                cases hb with
                | false =>
                  refine wp_quiet_in ff (by kernel_rfl) (by kernel_rfl) HS.out ?_
                  iterate 9 (go_big_quiet_step ((go_at_call 48; refine (hHS'.out _).mono ?_; rintro e w3 ⟨rfl, hb3⟩; exact ⟨rfl, hsurj'.out _ ((hbel'.out _).trans (hb3.mono (hbel'.out _).size))⟩)))
                  refine wpQuiet_nil ?_; intro s; have hbs := hbel'.out s; have hbw4 := hbw3'.out.trans (hbs.mono hbw3'.out.size); obtain rfl := hRno'.out rfl; have hbs' := Lib.hid hbs; have hbw4' := Lib.hid hbw4; clear hbs hbw4
                  go_wp2_with fail
                  go_ret
                  exact ⟨rfl, hbw4'.out⟩
                | true =>
                  refine wp_quiet_in ff (by kernel_rfl) (by kernel_rfl) HS.out ?_
                  iterate 9 (go_big_quiet_step ((go_at_call 48; refine (hHS'.out _).mono ?_; rintro e w3 ⟨rfl, hb3⟩; exact ⟨rfl, hsurj'.out _ ((hbel'.out _).trans (hb3.mono (hbel'.out _).size))⟩)))
                  refine wpQuiet_nil ?_; intro s; have hbs := hbel'.out s; have hb4 := hb3'.out.trans (hbs.mono hb3'.out.size); have hbs' := Lib.hid hbs; have hb4' := Lib.hid hb4; clear hbs hb4
                  go_wp2_with fail
                  go_roundw
                  case rel => exact ⟨i + 1, by omega, by go_num, Lib.hid (hall2'.out rfl), hb4'⟩
                  case measure => simp [intOf]; omega
              · obtain rfl : i = k := by omega
                have hA : hasAll (shps zs) f ds = true := rng_yes (fun j hj => hall.out j (by rw [hdn'.out] at hj; exact hj)); rw [hA, if_pos (by rfl)] at hR'; have bkx := bkr'.out.late hbx.out; have o0 := bkx.cell (i := 0) rfl; have o1 := bkx.cell (i := 1) rfl; have hL := fun oo => plng_any f oo sa i sc ds wr (h'.out.mono hbwx) hs'.out hby'.out hN'.out; obtain ⟨lg, hlg⟩ : ∃ x, longT f ds = x := ⟨_, rfl⟩; simp only [hlg] at hL hR'; have bkx' := Lib.hid bkx; have hL' := Lib.hid hL; have hlg' := Lib.hid hlg; have hbwx' := Lib.hid hbwx; clear bkx hL hlg hbwx
                go_wp2_with fail
                refine (hL'.out _).mono ?_; rintro e w5 ⟨rfl, hb5⟩; have hbw5 := hbwx'.out.trans (hb5.mono hbwx'.out.size)
                by_cases hl0 : lg = 0
                · have hz1 : (lg == 0) = true := by simp [hl0]
                  obtain rfl : R = 7 := by rw [← hR'.out, if_pos hl0]
                  have hbw5' := Lib.hid hbw5; have hb5' := Lib.hid hb5; clear hbw5 hb5
                  go_wp2_with fail
                  go_ret
                  exact ⟨rfl, hbw5'.out⟩
                · have hz1 : (lg == 0) = false := by simp [hl0]
                  obtain rfl : R = 0 := by rw [← hR'.out, if_neg hl0]
                  have hbw5' := Lib.hid hbw5; have hb5' := Lib.hid hb5; clear hbw5 hb5
                  go_wp2_with fail
                  go_ret
                  exact ⟨rfl, hbw5'.out⟩
  · have h1 : ((2 : Int) != 1) = true := by simp
    have h2 : ((2 : Int) != 2) = false := by simp
    by_cases hs0 : sn = 0
    · have h3 : ((sn : Int) == 0) = true := by simp [hs0]
      have h4 : (sn == 0) = true := by simp [hs0]
      obtain rfl : R = 1 := by rw [← hR'.out, decide_eq_true hs0]; rfl
      clear hs0; have hb2' := Lib.hid hb2; have bk2' := Lib.hid bk2; have hbw2' := Lib.hid hbw2; clear hb2 bk2 hbw2
      go_wp2_with fail
      go_ret
      exact ⟨rfl, hbw2'.out⟩
    · have h3 : ((sn : Int) == 0) = false := by simp; omega
      have h4 : (sn == 0) = false := by simp; omega
      rw [decide_eq_false hs0, if_pos (by rfl)] at hR'; have hb2' := Lib.hid hb2; have bk2' := Lib.hid bk2; have hbw2' := Lib.hid hbw2; clear hb2 bk2 hbw2
      go_wp2_with fail
      clear h1 h2 h3 h4 c0 c1
      go_loopw [5, 6] (fun v iv wr => ∃ (k : Nat) (xa : Option Addr) (xc : Nat), k ≤ sn ∧ v = .slice xa k xc ∧ iv = .int .i64 (nxtS (shps zs) k) ∧ Hid (wr.ownsRow w2.heap.size 3 1 (.slice xa k xc) k (ints .i64 (nxts (shps zs) k))) ∧ Hid (chainB (shps zs) k = true) ∧ Hid (Below w2.heap.size w2 wr)) (fun v _ _ => sn - slen v)
      case atStart => exact ⟨0, none, 0, by omega, rfl, rfl, Lib.hid (own_nil _ _ _ _), Lib.hid rfl, Lib.hid (Below.refl _ _)⟩
      case round =>
        obtain ⟨k, xa, xc, hk, rfl, rfl, hown, hch, hb⟩ := hrel; have bkr := bk2'.out.late hb.out; have c1 : wr.cell? ⟨w.heap.size, 1, none⟩ = some (.slice sa sn sc) := bkr.cell rfl; have hnx := nxt_lt hshb'.out k; have hzl2 : (shps zs).length = n := by unfold shps; rw [List.length_map]; exact hzl'.out
        rw [hzl2] at hnx; have hst := chainB_step (L := shps zs) (n := k); rw [hch.out, Bool.true_and] at hst; have hno := fun (hlt : k < sn) hh => chainB_no (L := shps zs) (n := sn) (k := k) hlt hh; have hnS : nxtS (shps zs) (k + 1) = ((shps zs).getD (nxtS (shps zs) k).toNat shp0).2.2.2 := rfl; have hxs := nxts_succ (shps zs) k; obtain ⟨at_, hat⟩ : ∃ x, nxtS (shps zs) k = x := ⟨_, rfl⟩; rw [hat] at hnx hst hno hnS hxs ⊢; have bkr' := Lib.hid bkr; have hst' := Lib.hid hst; have hno' := Lib.hid hno; have hnS' := Lib.hid hnS; have hxs' := Lib.hid hxs; have hat' := Lib.hid hat; clear bkr hst hno hnS hxs hat
        go_upto_region 5 with fail
        go_cut [37] from 28 to 37 (fun v wx => v = .bool (decide (0 ≤ at_) && decide (k < sn)) ∧ wr = wx)
        case first =>
          by_cases ha : 0 ≤ at_
          · have ha1 : decide (0 ≤ at_) = true := by simp; omega
            by_cases hks : k < sn
            · have hk3 : decide ((k : Int) < (sn : Int)) = true := by simp; omega
              have hk4 : decide (k < sn) = true := by simp; omega
              go_wp2_with fail
              go_meet
              exact ⟨by rw [ha1, hk4]; rfl, rfl⟩
            · have hk3 : decide ((k : Int) < (sn : Int)) = false := by simp; omega
              have hk4 : decide (k < sn) = false := by simp; omega
              go_wp2_with fail
              go_meet
              exact ⟨by rw [ha1, hk4]; rfl, rfl⟩
          · have ha1 : decide (0 ≤ at_) = false := by simp; omega
            go_wp2_with fail
            go_meet
            exact ⟨by rw [ha1]; rfl, rfl⟩
        case rest =>
        obtain ⟨rfl, rfl⟩ := hcut; clear c1
        by_cases hgo : 0 ≤ at_ ∧ k < sn
        · obtain ⟨ha, hks⟩ := hgo
          rw [decide_eq_true ha, decide_eq_true hks]; obtain ⟨ai, rfl⟩ : ∃ ai : Nat, at_ = ai := ⟨at_.toNat, by omega⟩; have hin : (ai : Int) < n := by omega
          have hin2 : ai < n := by omega
          have hbw0 := hbw2'.out.trans (hb.out.mono hbw2'.out.size); have hzr := hz'.out.mono hbw0; obtain ⟨b, o2, rfl, hblt, fe⟩ := hzr.row.elem shc_len (by decide) shz0 hin2; rw [Int.toNat_natCast, shps_get (by rw [hzl'.out]; exact hin2)] at hnS'; have f3 := fe 3 _ rfl; rw [← hnS'.out] at f3; clear fe; have hnew := Sl.new' wr 3 1 1 (ints .i64 [(ai : Int)]).toArray (0, 0) (by first | rfl | simp) (by omega) rfl; have hch2 : chainB (shps zs) (k + 1) = true := hst'.out.trans (decide_eq_true (by omega)); have hal := (Below.refl wr.heap.size wr).alloc (Nat.le_refl _) (.cells #[.int .i64 ai] 3)
          have hblt0 : b < w2.heap.size := by
            obtain ⟨b', o', e, hb', _⟩ := (hz'.out.mono hbw2'.out).row.elem shc_len (by decide) shz0 hin2; injection e with e; injection e with e1 e2; omega
          have hbw0' := Lib.hid hbw0; have hzr' := Lib.hid hzr; have hnew' := Lib.hid hnew; have hch2' := Lib.hid hch2; have hal' := Lib.hid hal; clear hbw0 hzr hnew hch2 hal
          go_wp2_with (at_builtin; refine wpList_app rfl _ _ 102 rfl w2.heap.size 3 i0 _ 1 8 Tryz.underlying102 hi0 hz0 hz1 hz2 rfl (by decide) _ k _ rfl (World.ownsRow.alloc hown.out _) _ 1 1 (ints .i64 [(ai : Int)]) rfl hnew'.out ints_one (by omega) (by decide) (by have := hb.out.size; simp; omega) ?_; intro a5 c5 w5 ob hb5 hg5; have Ob := Lib.hid ob; have Hb5 := Lib.hid ((hb.out.trans (hal'.out.mono hb.out.size)).trans hb5); have f5 : w5.cell? ⟨b, o2 + ai * 4 + 3, none⟩ = some (.int .i64 (nxtS (shps zs) (k + 1))) := (hb5.cell hblt0).trans ((hal'.out.cell (Nat.lt_of_lt_of_le hblt0 hb.out.size)).trans f3); clear ob hb5 hg5)
          go_roundw
          case rel => exact ⟨k + 1, a5, c5, by omega, rfl, rfl, Lib.hid (by rw [hxs'.out, ints_append]; exact Ob.out), hch2', Hb5⟩
          case measure => simp [slen]; omega
        · have hgB : (decide (0 ≤ at_) && decide (k < sn)) = false := by
            by_cases ha : 0 ≤ at_
            · rw [decide_eq_true ha, decide_eq_false (show ¬ k < sn by omega)]; rfl
            · rw [decide_eq_false ha]; rfl
          rw [hgB]; have c1 : wr.cell? ⟨w.heap.size, 1, none⟩ = some (.slice sa sn sc) := bkr'.out.cell rfl; have hbwr := hbw2'.out.trans (hb.out.mono hbw2'.out.size)
          by_cases hks : k < sn
          · obtain rfl : R = 1 := by
              have hcn := hno'.out hks (by omega); rw [← hR'.out, hcn]; rfl
            have hks2 : (k : Int) < sn := by omega
            have hk3 : decide ((k : Int) < (sn : Int)) = true := by simp; omega
            have hbwr' := Lib.hid hbwr; clear hbwr
            go_wp2_with fail
            go_ret
            exact ⟨rfl, hbwr'.out⟩
          · obtain rfl : k = sn := by omega
            have hcr := hch.out; rw [hch.out, if_pos (by rfl)] at hR'; have hk3 : decide ((k : Int) < (k : Int)) = false := by simp
            have hk5 : ¬ (k : Int) < (k : Int) := by omega
            have hchr := (Sl.of_own hown.out).1; have hbwr' := Lib.hid hbwr; have hcr' := Lib.hid hcr; have hchr' := Lib.hid hchr; clear hbwr hcr hchr; clear hgo hgB hk hks hnx
            go_wp2_with fail
            clear c1
            go_loopw [56] (fun iv wx => ∃ i : Nat, i ≤ k ∧ iv = .int .i64 i ∧ Hid (∀ j, j < i → hasS (shps zs) f (ds.getD j (dirZ f)) (nxtS (shps zs) j) = true) ∧ Hid (Below wr.heap.size wr wx)) (fun iv _ => k - (intOf iv).toNat)
            case atStart => exact ⟨0, by omega, rfl, Lib.hid (fun j hj => by omega), Lib.hid (Below.refl _ _)⟩
            case round =>
              obtain ⟨i, hi, rfl, hall, hbx⟩ := hrel; have hbwx := hbwr'.out.trans (hbx.out.mono hbwr'.out.size)
              by_cases hlt : i < k
              · obtain ⟨dvs, hdl, hsl, hsub⟩ := h'.out
                have hid : i < ds.length := by rw [hdn'.out]; exact hlt
                have hids : i < dvs.length := by rw [hdl]; exact hid
                obtain ⟨b, o2, rfl, hblt, fe⟩ := (hsl.mono hbwx).elem dvC_len (by decide) dzz hlt; rw [getD_el hids] at fe; have hq2 := hsub i hids hid; obtain ⟨ua, un, uc, ra, rn, rc, ya, yn, yc, hv⟩ := hq2.v; have g0 := fe 0 _ rfl; have g1 := fe 1 _ rfl; have g2 := fe 2 _ rfl; clear fe hsl hsub; rw [hv] at hq2 g0 g1 g2; simp only [Nat.add_zero] at g0 g1 g2; have hw1 : IntKind.i64.wrap ((i : Int) + 1) = i + 1 := by rw [IntKind.wrap_i64]; omega
                have hil : (i : Int) < (k : Int) := by omega
                have hil0 : (0 : Int) ≤ (i : Int) := by omega
                have hni := nxt_lt hshb'.out i; rw [hzl2] at hni
                have hni0 : 0 ≤ nxtS (shps zs) i := by
                  have := List.all_eq_true.1 hcr'.out i (List.mem_range.2 hlt)
                  simpa using this
                obtain ⟨si, hsi⟩ : ∃ si : Nat, nxtS (shps zs) i = si := ⟨(nxtS (shps zs) i).toNat, by omega⟩; have hgi : ds.getD i (dirZ f) = ds[i] := by rw [getD_el hid]
                have hRno : hasS (shps zs) f ds[i] si = false → R = 6 := fun hh => by
                  have : hasAll (shps zs) f ds = false := rng_no (k := i) (by rw [hdn'.out]; exact hlt) (by rw [hgi, hsi]; exact hh); rw [← hR'.out, this]; rfl
                have hall2 : hasS (shps zs) f ds[i] si = true → ∀ j, j < i + 1 → hasS (shps zs) f (ds.getD j (dirZ f)) (nxtS (shps zs) j) = true := fun hv j hj => by
                  by_cases hjk : j = i
                  · subst hjk; rw [hgi, hsi]; exact hv
                  · exact hall.out j (by omega)
                have hal := (Below.refl wr.heap.size wr).alloc (Nat.le_refl _) (.cells #[.slice ua un uc, .slice ra rn rc, .slice ya yn yc] 26); have bd := Blk.new wr 26 #[.slice ua un uc, .slice ra rn rc, .slice ya yn yc]; have hb3 := hbx.out.trans (hal.mono hbx.out.size); have hbw3 := hbwr'.out.trans (hb3.mono hbwr'.out.size); have hch3 := hchr'.out.mono hb3; have hsm := hs'.out _ (List.getElem_mem hid); have hbyd := hby'.out _ (List.getElem_mem hid)
                generalize ds[i] = dd at *
                have hdl' := Lib.hid hdl; have hq2' := Lib.hid hq2; have hv' := Lib.hid hv; have hni' := Lib.hid hni; have hRno' := Lib.hid hRno; have hall2' := Lib.hid hall2; have hal' := Lib.hid hal; have bd' := Lib.hid bd; have hb3' := Lib.hid hb3; have hbw3' := Lib.hid hbw3; have hch3' := Lib.hid hch3; have hsi' := Lib.hid hsi; have hgi' := Lib.hid hgi; have hsm' := Lib.hid hsm; have hbyd' := Lib.hid hbyd; clear hdl hq2 hv hni hRno hall2 hal bd hb3 hbw3 hch3 hsi hgi hsm hbyd
                go_wp2_with fail
                obtain ⟨w3, hw3⟩ : ∃ w3, wr.alloc (.cells #[.slice ua un uc, .slice ra rn rc, .slice ya yn yc] 26) = w3 := ⟨_, rfl⟩; rw [hw3] at bd' hb3' hbw3' hch3' ⊢; clear g0 g1 g2; obtain ⟨g3, hg3⟩ : ∃ g3, wr.heap.size = g3 := ⟨_, rfl⟩; rw [hg3] at bd' ⊢; obtain ⟨xb, xo, rfl, hxlt, hxc⟩ := hch3'.out.at hlt; have hx1 := hxc i _ (ints_get (by rw [nxts_len]; exact hlt))
                have hxe : (nxts (shps zs) k).getD i 0 = si := by
                  unfold nxts; rw [List.getD_eq_getElem?_getD, List.getElem?_map, List.getElem?_range hlt]; exact hsi'.out
                rw [hxe] at hx1; clear hxc; obtain ⟨Ty, ff, hne, hbel, hsurj⟩ := later_worlds w3; have HS := Lib.hid (hsurj _ ((Below.refl _ _).drew)); have q0 : ∀ s, (ff s).cell? ⟨g3, 0, none⟩ = some (.slice ua un uc) := fun s => (bd'.out.late (hbel s)).cell rfl; have q1 : ∀ s, (ff s).cell? ⟨g3, 1, none⟩ = some (.slice ra rn rc) := fun s => (bd'.out.late (hbel s)).cell rfl; have q2 : ∀ s, (ff s).cell? ⟨g3, 2, none⟩ = some (.slice ya yn yc) := fun s => (bd'.out.late (hbel s)).cell rfl; have q3 : ∀ s, (ff s).cell? ⟨xb, xo + i, none⟩ = some (.int .i64 si) := fun s => late (hbel s) hxlt hx1; have hHS := fun s => has_any zs a n c f w (ff s) dd (.slice ua un uc, .slice ra rn rc, .slice ya yn yc) si hz'.out (hbw3'.out.trans ((hbel s).mono hbw3'.out.size)) hq2'.out hsm'.out hbyd'.out hshb'.out (by have := hni'.out; have := hsi'.out; omega); simp only at hHS; obtain ⟨hb, hhb⟩ : ∃ hb, hasS (shps zs) f dd si = hb := ⟨_, rfl⟩; rw [hhb] at hHS hRno' hall2'; clear hx1 hxe; have hbel' := Lib.hid hbel; have hsurj' := Lib.hid hsurj; have hHS' := Lib.hid hHS; have hhb' := Lib.hid hhb; have hxlt' := Lib.hid hxlt; have hw3' := Lib.hid hw3; have hg3' := Lib.hid hg3; clear hbel hsurj hHS hhb hxlt hw3 hg3
                cases hb with
                | false =>
                  refine wp_quiet_in ff (by kernel_rfl) (by kernel_rfl) HS.out ?_
                  iterate 9 (go_big_quiet_step ((go_at_call 48; refine (hHS'.out _).mono ?_; rintro e w3 ⟨rfl, hb3⟩; exact ⟨rfl, hsurj'.out _ ((hbel'.out _).trans (hb3.mono (hbel'.out _).size))⟩)))
                  refine wpQuiet_nil ?_; intro s; have hbs := hbel'.out s; have hbw4 := hbw3'.out.trans (hbs.mono hbw3'.out.size); obtain rfl := hRno'.out rfl; have hbs' := Lib.hid hbs; have hbw4' := Lib.hid hbw4; clear hbs hbw4
                  go_wp2_with fail
                  go_ret
                  exact ⟨rfl, hbw4'.out⟩
                | true =>
                  refine wp_quiet_in ff (by kernel_rfl) (by kernel_rfl) HS.out ?_
                  iterate 9 (go_big_quiet_step ((go_at_call 48; refine (hHS'.out _).mono ?_; rintro e w3 ⟨rfl, hb3⟩; exact ⟨rfl, hsurj'.out _ ((hbel'.out _).trans (hb3.mono (hbel'.out _).size))⟩)))
                  refine wpQuiet_nil ?_; intro s; have hbs := hbel'.out s; have hb4 := hb3'.out.trans (hbs.mono hb3'.out.size); have hbs' := Lib.hid hbs; have hb4' := Lib.hid hb4; clear hbs hb4
                  go_wp2_with fail
                  go_roundw
                  case rel => exact ⟨i + 1, by omega, by go_num, Lib.hid (hall2'.out rfl), hb4'⟩
                  case measure => simp [intOf]; omega
              · obtain rfl : i = k := by omega
                have hA : hasAll (shps zs) f ds = true := rng_yes (fun j hj => hall.out j (by rw [hdn'.out] at hj; exact hj)); rw [hA, if_pos (by rfl)] at hR'; have bkx := bkr'.out.late hbx.out; have o0 := bkx.cell (i := 0) rfl; have o1 := bkx.cell (i := 1) rfl; have hL := fun oo => plng_any f oo sa i sc ds wr (h'.out.mono hbwx) hs'.out hby'.out hN'.out; obtain ⟨lg, hlg⟩ : ∃ x, longT f ds = x := ⟨_, rfl⟩; simp only [hlg] at hL hR'; have bkx' := Lib.hid bkx; have hL' := Lib.hid hL; have hlg' := Lib.hid hlg; have hbwx' := Lib.hid hbwx; clear bkx hL hlg hbwx
                go_wp2_with fail
                refine (hL'.out _).mono ?_; rintro e w5 ⟨rfl, hb5⟩; have hbw5 := hbwx'.out.trans (hb5.mono hbwx'.out.size)
                by_cases hl0 : lg = 0
                · have hz1 : (lg == 0) = true := by simp [hl0]
                  obtain rfl : R = 7 := by rw [← hR'.out, if_pos hl0]
                  have hbw5' := Lib.hid hbw5; have hb5' := Lib.hid hb5; clear hbw5 hb5
                  go_wp2_with fail
                  go_ret
                  exact ⟨rfl, hbw5'.out⟩
                · have hz1 : (lg == 0) = false := by simp [hl0]
                  obtain rfl : R = 0 := by rw [← hR'.out, if_neg hl0]
                  have hbw5' := Lib.hid hbw5; have hb5' := Lib.hid hb5; clear hbw5 hb5
                  go_wp2_with fail
                  go_ret
                  exact ⟨rfl, hbw5'.out⟩
end Go.Proofs.YtceclmpmpldmlaaGreat
