/- Chapter 12: the law ScanCounts. | The closed facts of the row of ScanCounts, each by itself. -/
import Derived.Test.YtpjopeojeglogaaCs37
import Derived.Test.YtpjopeojeglogaaCs41
import Derived.Test.YtpjopeojeglogaaCs00
namespace Go.Proofs.Ytpjopeojeglogaa
open Go.RowKit Tt
set_option linter.unusedVariables false
set_option linter.unusedSimpArgs false

theorem fold_er {α β : Type} {f : β → α → Except Int β} {c : Int} (h : ∀ s x e, f s x = .error e → e = c) : ∀ (l : List α) (s : β) (e : Int), l.foldlM f s = .error e → e = c := by
  intro l
  induction l with
  | nil => intro s e h2; cases h2
  | cons x l ih =>
    intro s e h2; rw [List.foldlM_cons] at h2
    cases hf : f s x with
    | error e2 =>
      rw [hf] at h2; have h3 : (Except.error e2 : Except Int β) = .error e := h2; injection h3 with h3; rw [← h3]; exact h s x e2 hf
    | ok s2 =>
      rw [hf] at h2; exact ih s2 e h2
theorem tellC_er {s : ScT} {bs : List (List (List Int))} {e : Int} (h : tellC s bs = .error e) : e = 7 := by
  unfold tellC tellS at h; refine fold_er (c := 7) (fun st n e2 h2 => ?_) _ _ _ h; unfold stepU at h2; refine fold_er (c := 7) (fun st2 x e3 h3 => ?_) _ _ _ h2; unfold stepB at h3
  split at h3
  · injection h3 with h3; exact h3.symm
  · rw [putL_C] at h3
    cases h3
set_option maxRecDepth 100000 in
set_option maxHeartbeats 8000000 in
theorem counts12_law (s : ScT) (bs : List BpM) (pa ba : Option Addr) (pn pc bn bc : Nat) (part sym : Int) (w : World) (hs : PtsB w pa pn pc s.ps) (hb : BpsR w ba bn bc bs) (hw1 : Wf s.ax) (hw2 : Wf s.dn) (hw3 : Wf s.iv) :
    Calls Try.prog 6 #[.agg #[.int .i64 s.ax, .int .i64 s.dn, .slice pa pn pc, .int .i64 s.iv], .slice ba bn bc, .int .i64 part, .int .i64 sym] w (LawR w) := by
  have b1 := Blk.new w 24 #[.int .i64 s.ax, .int .i64 s.dn, .slice pa pn pc, .int .i64 s.iv]; have hb1 := (Below.refl w.heap.size w).alloc (Nat.le_refl _) (.cells #[.int .i64 s.ax, .int .i64 s.dn, .slice pa pn pc, .int .i64 s.iv] 24); obtain ⟨W1, hW1⟩ : ∃ W1, w.alloc (.cells #[.int .i64 s.ax, .int .i64 s.dn, .slice pa pn pc, .int .i64 s.iv] 24) = W1 := ⟨_, rfl⟩; rw [hW1] at b1 hb1; have hcs : ∀ W, Blk W w.heap.size 24 #[.int .i64 s.ax, .int .i64 s.dn, .slice pa pn pc, .int .i64 s.iv] → W.cell? ⟨w.heap.size, 0, none⟩ = some (.int .i64 s.ax) ∧ W.cell? ⟨w.heap.size, 1, none⟩ = some (.int .i64 s.dn) ∧ W.cell? ⟨w.heap.size, 2, none⟩ = some (.slice pa pn pc) ∧ W.cell? ⟨w.heap.size, 3, none⟩ = some (.int .i64 s.iv) := fun W b => ⟨b.cell rfl, b.cell rfl, b.cell rfl, b.cell rfl⟩; have HL := large12_any s pa pn pc W1 (hs.mono hb1) hw1 hw2; have HA := awake12_any; have HY := fun W (h : Below w.heap.size w W) => many12_any bs ba bn bc W (hb.mono h); obtain ⟨k0, k1, k2, k3⟩ := hcs W1 b1; have hs' := Lib.hid hs; have hb' := Lib.hid hb; have hw1' := Lib.hid hw1; have hw2' := Lib.hid hw2; have hw3' := Lib.hid hw3; have b1' := Lib.hid b1; have hb1' := Lib.hid hb1; have hW1' := Lib.hid hW1; have hcs' := Lib.hid hcs; have HL' := Lib.hid HL; have HA' := Lib.hid HA; have HY' := Lib.hid HY; clear hs hb hw1 hw2 hw3 b1 hb1 hW1 hcs HL HA HY
  go_enter Try.func6, Try.ntmps6
  go_upto_region 1 with fail
  rw [hW1'.out]
  go_cut [17] from 12 (fun v wx => Hid (Below w.heap.size w wx) ∧ Hid (Blk wx w.heap.size 24 #[.int .i64 s.ax, .int .i64 s.dn, .slice pa pn pc, .int .i64 s.iv]) ∧ (v = .bool true ∨ (v = .bool false ∧ bn ≤ 5 ∧ Hid (SmallSc s ∧ ∀ x ∈ bs, x.2.2.1 ≤ 100))))
  case first =>
    go_wp2_with fail
    refine HL'.out.mono ?_; rintro e w2 ⟨bl, rfl, hsm, hb2⟩; have hbw2 := hb1'.out.trans (hb2.mono hb1'.out.size); have b2 := b1'.out.late hb2; clear k0 k1 k2 k3 hb2
    cases bl with
    | true =>
      clear hsm; have hbw2' := Lib.hid hbw2; have b2' := Lib.hid b2; clear hbw2 b2
      go_wp2
      go_meet
      case rel => exact ⟨hbw2', b2', .inl rfl⟩
    | false =>
      have hsm2 := hsm rfl; have HY2 := HY'.out w2 hbw2; clear hsm; have hbw2' := Lib.hid hbw2; have b2' := Lib.hid b2; have hsm2' := Lib.hid hsm2; have HY2' := Lib.hid HY2; clear hbw2 b2 hsm2 HY2
      go_wp2_with fail
      refine HY2'.out.mono ?_; rintro e w3 ⟨bl, rfl, hmy, hb3⟩; have hbw3 := hbw2'.out.trans (hb3.mono hbw2'.out.size); have b3 := b2'.out.late hb3; clear hb3
      cases bl with
      | true =>
        clear hmy; have hbw3' := Lib.hid hbw3; have b3' := Lib.hid b3; clear hbw3 b3
        go_wp2
        go_meet
        case rel => exact ⟨hbw3', b3', .inl rfl⟩
      | false =>
        obtain ⟨hm5, hm100⟩ := hmy rfl; clear hmy; have hbw3' := Lib.hid hbw3; have b3' := Lib.hid b3; have hm100' := Lib.hid hm100; clear hbw3 b3 hm100
        go_wp2
        go_meet
        case rel => exact ⟨hbw3', b3', .inr ⟨rfl, hm5, Lib.hid ⟨hsm2'.out, hm100'.out⟩⟩⟩
  case rest =>
  clear k0 k1 k2 k3 HL' hb1' b1' HY'; obtain ⟨hbw2, b2, hc⟩ := hcut
  rcases hc with rfl | ⟨rfl, hbn, hsm⟩
  · have HA2 := HA'.out wc
    have HA2' := Lib.hid HA2; clear HA2
    go_wp2_with fail
    refine HA2'.out.mono ?_; rintro e w3 ⟨rfl, hb3⟩; have hbw3 := hbw2.out.trans (hb3.mono hbw2.out.size); clear hb3; have hbw3' := Lib.hid hbw3; clear hbw3
    go_wp2
    go_ret
    exact LawR.mk rfl hbw3'.out
  obtain ⟨⟨hsh, hs1, hs2, hs3, hs4⟩, hm100⟩ := hsm.out; have hP := hs'.out.few hsh; have hpw : ∀ p ∈ s.ps, Wf p.1 ∧ Wf p.2.1 := fun p hp => ⟨(hs'.out.ok p hp).wfh, (hs'.out.ok p hp).wfv⟩; have hfew := fun hm => few_units hm hs1 hs2 hs3; have hl := hP.ilen; have hm3 : ∀ x ∈ bs, x.2.2.1 ≤ 1000000000 := fun x hx => by have := hm100 x hx; omega
  have HC := count_any s bs pa ba pn pc bn bc wc (hP.mono hbw2.out) (hb'.out.mono hbw2.out) (by omega) hm3 hw1'.out hw2'.out hw3'.out hpw hfew; have HWh := fun W (h : Below w.heap.size w W) => rwhole12_any s bs pa ba pn pc bn bc W (hP.mono h) (hb'.out.mono h) (by omega) hm3 hw1'.out hw2'.out hw3'.out hpw; obtain ⟨Q, hQ⟩ : ∃ Q, wholeS s (bs.map (·.1)) = Q := ⟨_, rfl⟩; simp only [hQ] at HWh; obtain ⟨k0, k1, k2, k3⟩ := hcs'.out wc b2.out; have hws := @wholeS_mayS s (bs.map (·.1)); rw [hQ] at hws; clear hsm hs1 hs2 hs3 hs4 hsh; have hP' := Lib.hid hP; have hpw' := Lib.hid hpw; have hl' := Lib.hid hl; have hfew' := Lib.hid hfew; have hm100' := Lib.hid hm100; have hm3' := Lib.hid hm3; have HC' := Lib.hid HC; have HWh' := Lib.hid HWh; have hQ' := Lib.hid hQ; have hws' := Lib.hid hws; clear hP hpw hl hfew hm100 hm3 HC HWh hQ hws
  go_wp2_with fail
  refine HC'.out.mono ?_; rintro e w4 ⟨hres, hb4⟩; have hbw4 := hbw2.out.trans (hb4.mono hbw2.out.size); have b4 := b2.out.late hb4; have HW4 := HWh'.out w4 hbw4; clear k0 k1 k2 k3 hb4 b2 hbw2
  rcases hres with ⟨hwf, rfl⟩ | ⟨hwt, hres⟩
  · obtain rfl : Q = false := by rw [← hQ'.out]; exact hwf
    obtain ⟨k0, k1, k2, k3⟩ := hcs'.out w4 b4; have hbw4' := Lib.hid hbw4; have b4' := Lib.hid b4; have HW4' := Lib.hid HW4; clear hbw4 b4 HW4
    go_wp2_with fail
    refine HW4'.out.mono ?_; rintro e w5 ⟨rfl, hb5⟩; have hbw5 := hbw4'.out.trans (hb5.mono hbw4'.out.size); clear hb5 k0 k1 k2 k3; have hbw5' := Lib.hid hbw5; clear hbw5; have HA2 := HA'.out w5; have HA2' := Lib.hid HA2; clear HA2
    go_wp2_with fail
    refine HA2'.out.mono ?_; rintro e wy ⟨rfl, hby⟩; have hbwy := (hbw5'.out).trans (hby.mono (hbw5'.out).size); clear hby
    have hbwy' := Lib.hid hbwy; clear hbwy
    go_wp2
    go_ret
    exact LawR.mk rfl hbwy'.out
  obtain rfl : Q = true := by rw [← hQ'.out]; exact hwt
  have hmay := hws'.out rfl; have HN := fun p ac sy W (h : Below w.heap.size w W) => rcount12_any s bs pa ba pn pc bn bc p ac sy W (hP'.out.mono h) (hb'.out.mono h) hmay hwt (hfew'.out hmay); clear hwt; obtain ⟨TC, hTC⟩ : ∃ T, tellC s (bs.map (·.1)) = T := ⟨_, rfl⟩; simp only [hTC] at HN; rw [hTC] at hres
  rcases hres with ⟨er, hter, rfl⟩ | ⟨t, la, da, dc, aa, ac, LD, LA, hter, rfl, hd, ha, hcd, hca⟩
  · have her : er = 7 := tellC_er (hTC.trans hter)
    subst her; subst hter; obtain ⟨k0, k1, k2, k3⟩ := hcs'.out w4 b4; have hbw4' := Lib.hid hbw4; have b4' := Lib.hid b4; have HW4' := Lib.hid HW4; have HN' := Lib.hid HN; have hmay' := Lib.hid hmay; have hTC' := Lib.hid hTC; clear hbw4 b4 HW4 HN hmay hTC
    go_wp2_with fail
    refine HW4'.out.mono ?_; rintro e w5 ⟨rfl, hb5⟩; have hbw5 := hbw4'.out.trans (hb5.mono hbw4'.out.size); have b5 := b4'.out.late hb5; have HN5 := HN'.out 0 0 0 w5 hbw5; unfold cntV at HN5; clear hb5 k0 k1 k2 k3; obtain ⟨k0, k1, k2, k3⟩ := hcs'.out w5 b5; have hbw5' := Lib.hid hbw5; have b5' := Lib.hid b5; have HN5' := Lib.hid HN5; clear hbw5 b5 HN5
    go_wp2_with fail
    refine HN5'.out.mono ?_; rintro e w6 ⟨rfl, hb6⟩; have hbw6 := hbw5'.out.trans (hb6.mono hbw5'.out.size); clear hb6 k0 k1 k2 k3; have hbw6' := Lib.hid hbw6; clear hbw6; have HA2 := HA'.out w6; have HA2' := Lib.hid HA2; clear HA2
    go_wp2_with fail
    refine HA2'.out.mono ?_; rintro e wy ⟨rfl, hby⟩; have hbwy := (hbw6'.out).trans (hby.mono (hbw6'.out).size); clear hby
    have hbwy' := Lib.hid hbwy; clear hbwy
    go_wp2
    go_ret
    exact LawR.mk rfl hbwy'.out
  · subst hter
    obtain ⟨k0, k1, k2, k3⟩ := hcs'.out w4 b4; have hbw4' := Lib.hid hbw4; have b4' := Lib.hid b4; have HW4' := Lib.hid HW4; have HN' := Lib.hid HN; have hmay' := Lib.hid hmay; have hTC' := Lib.hid hTC; have hd' := Lib.hid hd; have ha' := Lib.hid ha; have hcd' := Lib.hid hcd; have hca' := Lib.hid hca; clear hbw4 b4 HW4 HN hmay hTC hd ha hcd hca
    go_wp2_with fail
    refine HW4'.out.mono ?_; rintro e w5 ⟨rfl, hb5⟩; have hbw5 := hbw4'.out.trans (hb5.mono hbw4'.out.size); have b5 := b4'.out.late hb5; have hd5 := hd'.out.late hb5; have ha5 := ha'.out.late hb5; have HN5 := HN'.out 0 0 0 w5 hbw5; unfold cntV at HN5; obtain ⟨c0, hc0⟩ : ∃ c, cntC t 0 0 0 = c := ⟨_, rfl⟩; simp only [hc0] at HN5; clear hb5 k0 k1 k2 k3; obtain ⟨k0, k1, k2, k3⟩ := hcs'.out w5 b5; have hbw5' := Lib.hid hbw5; have b5' := Lib.hid b5; have HN5' := Lib.hid HN5; have hd5' := Lib.hid hd5; have ha5' := Lib.hid ha5; have hc0' := Lib.hid hc0; clear hbw5 b5 HN5 hd5 ha5 hc0
    go_wp2_with fail
    refine HN5'.out.mono ?_; rintro e w6 ⟨rfl, hb6⟩; have hbw6 := hbw5'.out.trans (hb6.mono hbw5'.out.size); have b6 := b5'.out.late hb6; have hd6 := hd5'.out.late hb6; have ha6 := ha5'.out.late hb6; have hc0n : ¬ ((c0 : Int) < 0) := by omega
    clear hb6 k0 k1 k2 k3; obtain ⟨k0, k1, k2, k3⟩ := hcs'.out w6 b6; have hbw6' := Lib.hid hbw6; have b6' := Lib.hid b6; have hd6' := Lib.hid hd6; have ha6' := Lib.hid ha6; clear hbw6 b6 hd6 ha6; have hpn := hl'.out
    go_upto_region 10 with fail
    clear hpn
    by_cases q1 : part < 0
    · clear k0 k1 k3 hc0n
      have HA2 := HA'.out w6; have HA2' := Lib.hid HA2; clear HA2
      go_wp2_with fail
      refine HA2'.out.mono ?_; rintro e wy ⟨rfl, hby⟩; have hbwy := (hbw6'.out).trans (hby.mono (hbw6'.out).size); clear hby
      have hbwy' := Lib.hid hbwy; clear hbwy
      go_wp2
      go_ret
      exact LawR.mk rfl hbwy'.out
    by_cases q2 : (pn : Int) ≤ part
    · clear k0 k1 k3 hc0n
      have HA2 := HA'.out w6; have HA2' := Lib.hid HA2; clear HA2
      go_wp2_with fail
      refine HA2'.out.mono ?_; rintro e wy ⟨rfl, hby⟩; have hbwy := (hbw6'.out).trans (hby.mono (hbw6'.out).size); clear hby
      have hbwy' := Lib.hid hbwy; clear hbwy
      go_wp2
      go_ret
      exact LawR.mk rfl hbwy'.out
    by_cases q3 : sym < 0
    · clear k0 k1 k3 hc0n
      have HA2 := HA'.out w6; have HA2' := Lib.hid HA2; clear HA2
      go_wp2_with fail
      refine HA2'.out.mono ?_; rintro e wy ⟨rfl, hby⟩; have hbwy := (hbw6'.out).trans (hby.mono (hbw6'.out).size); clear hby
      have hbwy' := Lib.hid hbwy; clear hbwy
      go_wp2
      go_ret
      exact LawR.mk rfl hbwy'.out
    by_cases q4 : 255 < sym
    · clear k0 k1 k3 hc0n
      have HA2 := HA'.out w6; have HA2' := Lib.hid HA2; clear HA2
      go_wp2_with fail
      refine HA2'.out.mono ?_; rintro e wy ⟨rfl, hby⟩; have hbwy := (hbw6'.out).trans (hby.mono (hbw6'.out).size); clear hby
      have hbwy' := Lib.hid hbwy; clear hbwy
      go_wp2
      go_ret
      exact LawR.mk rfl hbwy'.out
    obtain ⟨p, rfl⟩ : ∃ p : Nat, part = p := ⟨part.toNat, by omega⟩; obtain ⟨y, rfl⟩ : ∃ y : Nat, sym = y := ⟨sym.toNat, by omega⟩; have hpp : p < pn := by omega
    have hyy : y < 256 := by omega
    obtain ⟨⟨xd, ld⟩, hxd⟩ : ∃ x, LD[p]? = some x := ⟨_, List.getElem?_eq_getElem (by rw [hd6'.out.len]; exact hpp)⟩; obtain ⟨⟨xa, la2⟩, hxa⟩ : ∃ x, LA[p]? = some x := ⟨_, List.getElem?_eq_getElem (by rw [ha6'.out.len]; exact hpp)⟩; have hcd2 := hcd'.out p _ hxd; have hca2 := hca'.out p _ hxa; simp only at hcd2 hca2; obtain ⟨gd, rfl, hgd, cd0⟩ := hd6'.out.cell hxd; obtain ⟨ga, rfl, hga, ca0⟩ := ha6'.out.cell hxa; have bd6 := (hd6'.out.blk p _ hxd).2; have ba6 := (ha6'.out.blk p _ hxa).2; unfold oiV at cd0 ca0; simp only at cd0 ca0 bd6 ba6; rw [hcd2] at cd0 bd6; rw [hca2] at ca0 ba6; rw [cntL_len] at cd0 ca0; have hcl : ∀ (l : List Int) (v : Int), l[y]? = some v → (ints .i64 l).toArray[y]? = some (.int .i64 v) := fun l v h => by rw [List.getElem?_toArray]; unfold ints; rw [List.getElem?_map, h]; rfl
    have hdL := hcl _ _ (cntL_get (t := t) (i := p) (ac := 0) hyy); have haL := hcl _ _ (cntL_get (t := t) (i := p) (ac := 1) hyy); have HN0 := fun W h => HN'.out (p : Int) 0 (y : Int) W h; have HN1 := fun W h => HN'.out (p : Int) 1 (y : Int) W h; unfold cntV at HN0 HN1; simp only at HN0 HN1; obtain ⟨v0, hv0⟩ : ∃ v, cntC t (p : Int) 0 (y : Int) = v := ⟨_, rfl⟩; obtain ⟨v1, hv1⟩ : ∃ v, cntC t (p : Int) 1 (y : Int) = v := ⟨_, rfl⟩; rw [hv0] at hdL; rw [hv1] at haL; simp only [hv0] at HN0; simp only [hv1] at HN1; obtain ⟨Ty, ff, hne, hbel, hsurj⟩ := later_worlds w6; have HQ := Lib.hid (hsurj _ ((Below.refl _ _).drew)); have hBf := fun u => hbw6'.out.trans ((hbel u).mono hbw6'.out.size); have y0 : ∀ u, (ff u).cell? ⟨w.heap.size, 0, none⟩ = some (.int .i64 s.ax) := fun u => (hcs'.out _ (b6'.out.late (hbel u))).1; have y1 : ∀ u, (ff u).cell? ⟨w.heap.size, 1, none⟩ = some (.int .i64 s.dn) := fun u => (hcs'.out _ (b6'.out.late (hbel u))).2.1; have y2 : ∀ u, (ff u).cell? ⟨w.heap.size, 2, none⟩ = some (.slice pa pn pc) := fun u => (hcs'.out _ (b6'.out.late (hbel u))).2.2.1; have y3 : ∀ u, (ff u).cell? ⟨w.heap.size, 3, none⟩ = some (.int .i64 s.iv) := fun u => (hcs'.out _ (b6'.out.late (hbel u))).2.2.2; have yd : ∀ u, (ff u).cell? ⟨gd, p, none⟩ = some (.slice (some ⟨xd, 0, none⟩) 256 256) := fun u => ((hbel u).cell (p := ⟨gd, _, none⟩) hgd).trans cd0; have ya : ∀ u, (ff u).cell? ⟨ga, p, none⟩ = some (.slice (some ⟨xa, 0, none⟩) 256 256) := fun u => ((hbel u).cell (p := ⟨ga, _, none⟩) hga).trans ca0; have yD : ∀ u, (ff u).cell? ⟨xd, y, none⟩ = some (.int .i64 (v0 : Int)) := fun u => (bd6.late (hbel u)).cell hdL; have yA : ∀ u, (ff u).cell? ⟨xa, y, none⟩ = some (.int .i64 (v1 : Int)) := fun u => (ba6.late (hbel u)).cell haL; have e0 : ((v0 : Int) == (v0 : Int)) = true := by simp
    have e1 : ((v1 : Int) == (v1 : Int)) = true := by simp
    clear k0 k1 k3 hcl hdL haL hc0n hcd2 hca2 bd6 ba6 hgd hga q1 q2 q3 q4; have hxd' := Lib.hid hxd; have hxa' := Lib.hid hxa; have HN0' := Lib.hid HN0; have HN1' := Lib.hid HN1; have hv0' := Lib.hid hv0; have hv1' := Lib.hid hv1; have hbel' := Lib.hid hbel; have hsurj' := Lib.hid hsurj; have hBf' := Lib.hid hBf; clear hxd hxa HN0 HN1 hv0 hv1 hbel hsurj hBf
    go_upto_region 14 with fail
    clear cd0 ca0 k2; refine wp_quiet_in ff (by kernel_rfl) (by kernel_rfl) HQ.out ?_
    iterate 13 (go_big_quiet_step (first
      | (go_at_call 32; refine (HN0'.out _ (hBf'.out _)).mono ?_; rintro e w3 ⟨rfl, hb3⟩; exact ⟨rfl, hsurj'.out _ ((hbel'.out _).trans (hb3.mono (hbel'.out _).size))⟩)
      | rfl))
    iterate 19 (go_big_quiet_step (first
      | (go_at_call 32; refine (HN1'.out _ (hBf'.out _)).mono ?_; rintro e w3 ⟨rfl, hb3⟩; exact ⟨rfl, hsurj'.out _ ((hbel'.out _).trans (hb3.mono (hbel'.out _).size))⟩)
      | (go_at_call 18; refine (HA'.out _).mono ?_; rintro e w3 ⟨rfl, hb3⟩; exact ⟨rfl, hsurj'.out _ ((hbel'.out _).trans (hb3.mono (hbel'.out _).size))⟩)
      | rfl))
    refine wpQuiet_nil ?_; intro u; have hbz := Lib.hid (hBf'.out u); clear y0 y1 y2 y3 yd ya yD yA hne HQ
    go_wp2_with fail
    go_ret
    exact LawR.mk rfl hbz.out
end Go.Proofs.Ytpjopeojeglogaa

namespace Go.Proofs.Ytpjopeojeglogaa.scanCounts
theorem band {a b : Bool} (h1 : a = true) (h2 : b = true) : (a && b) = true := by rw [h1, h2]; rfl
set_option maxRecDepth 100000 in
set_option maxHeartbeats 8000000 in
theorem joined : joinedFacts Try.pinned.checked.prog 6 Try.f6 Rows.scanCountsSpec Rows.scanCountsRow = true := by
  unfold joinedFacts
  repeat' (with_reducible apply band)
  all_goals as_aux_lemma => kernel_rfl
end Go.Proofs.Ytpjopeojeglogaa.scanCounts
