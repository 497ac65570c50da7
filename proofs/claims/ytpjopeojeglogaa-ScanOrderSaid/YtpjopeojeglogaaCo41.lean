/- Chapter 12: the law ScanOrder. -/
import Derived.Test.YtpjopeojeglogaaCo22
import Derived.Test.YtpjopeojeglogaaCo35
import Derived.Test.YtpjopeojeglogaaCo40
namespace Go.Proofs.Ytpjopeojeglogaa
open Go.RowKit Tt
set_option linter.unusedVariables false
set_option linter.unusedSimpArgs false

theorem infoRowI : (Try.prog.info? 35).map (fun i => (i.zero, i.size, i.bytes)) = some (some (.slice none 0 0), 1, 24) := by kernel_rfl
def totS (N : Nat) (ps : List PtM) : Nat := (ps.map fun p => N * p.1.toNat * p.2.1.toNat).sum
theorem totS_all (N : Nat) (ps : List PtM) : totS N ps = N * unitN ps := by
  unfold totS unitN
  induction ps with
  | nil => simp
  | cons p ps ih => simp only [List.map_cons, List.sum_cons]; rw [ih, Nat.mul_add, Nat.mul_assoc]
theorem totS_snoc {N k : Nat} {ps : List PtM} {p : PtM} (h : ps[k]? = some p) : totS N (ps.take (k + 1)) = totS N (ps.take k) + N * p.1.toNat * p.2.1.toNat := by
  unfold totS; rw [List.take_add_one, h, List.map_append, List.sum_append]
  simp
theorem totS_le {N k : Nat} {ps : List PtM} (hp : ∀ (k : Nat) p, ps[k]? = some p → mayPt p = true) (hN : N ≤ 262144) : ∀ k, k ≤ ps.length → totS N (ps.take k) ≤ k * 4194304 := by
  intro k
  induction k with
  | zero => intro _; simp [totS]
  | succ k ih =>
    intro hk; obtain ⟨p, hpp⟩ : ∃ p, ps[k]? = some p := ⟨_, List.getElem?_eq_getElem (by omega)⟩; rw [totS_snoc hpp]; have := ih (by omega); have h1 := mayPt_bd (hp k p hpp); have b1 : N * p.1.toNat ≤ 262144 * 4 := Nat.mul_le_mul hN (by omega); have b2 : N * p.1.toNat * p.2.1.toNat ≤ 262144 * 4 * 4 := Nat.mul_le_mul b1 (by omega)
    omega
def LawR (w : World) (e : Ending) (w' : World) : Prop := e = .returned (.bool true) ∧ Below w.heap.size w w'
theorem LawR.mk {w w' : World} {e : Ending} (he : e = .returned (.bool true)) (hb : Below w.heap.size w w') : LawR w e w' := ⟨he, hb⟩
set_option maxRecDepth 100000 in
set_option maxHeartbeats 8000000 in
theorem order_law (s : ScT) (pa : Option Addr) (pn pc : Nat) (w : World) (hs : PtsB w pa pn pc s.ps) (hw1 : Wf s.ax) (hw2 : Wf s.dn) (hw3 : Wf s.iv) :
    Calls Try.prog 5 #[.agg #[.int .i64 s.ax, .int .i64 s.dn, .slice pa pn pc, .int .i64 s.iv]] w (LawR w) := by
  obtain ⟨iR, hiR, hzR0, hzR1, hzR2⟩ := info_parts infoRowI; obtain ⟨i1, hi, hz0, hz1, hz2⟩ := info_parts infoI; have b1 := Blk.new w 24 #[.int .i64 s.ax, .int .i64 s.dn, .slice pa pn pc, .int .i64 s.iv]; have hb1 := (Below.refl w.heap.size w).alloc (Nat.le_refl _) (.cells #[.int .i64 s.ax, .int .i64 s.dn, .slice pa pn pc, .int .i64 s.iv] 24); obtain ⟨W1, hW1⟩ : ∃ W1, w.alloc (.cells #[.int .i64 s.ax, .int .i64 s.dn, .slice pa pn pc, .int .i64 s.iv] 24) = W1 := ⟨_, rfl⟩; rw [hW1] at b1 hb1; have hcs : ∀ W, Blk W w.heap.size 24 #[.int .i64 s.ax, .int .i64 s.dn, .slice pa pn pc, .int .i64 s.iv] → W.cell? ⟨w.heap.size, 0, none⟩ = some (.int .i64 s.ax) ∧ W.cell? ⟨w.heap.size, 1, none⟩ = some (.int .i64 s.dn) ∧ W.cell? ⟨w.heap.size, 2, none⟩ = some (.slice pa pn pc) ∧ W.cell? ⟨w.heap.size, 3, none⟩ = some (.int .i64 s.iv) := fun W b => ⟨b.cell rfl, b.cell rfl, b.cell rfl, b.cell rfl⟩; have HL := large12_any s pa pn pc W1 (hs.mono hb1) hw1 hw2; have HA := awake12_any; obtain ⟨k0, k1, k2, k3⟩ := hcs W1 b1; have hs' := Lib.hid hs; have hw1' := Lib.hid hw1; have hw2' := Lib.hid hw2; have hw3' := Lib.hid hw3; have b1' := Lib.hid b1; have hb1' := Lib.hid hb1; have hW1' := Lib.hid hW1; have hcs' := Lib.hid hcs; have HL' := Lib.hid HL; have HA' := Lib.hid HA; clear hs hw1 hw2 hw3 b1 hb1 hW1 hcs HL HA
  go_enter Try.func5, Try.ntmps5
  go_upto_region 1 with fail
  rw [hW1'.out]
  go_wp2_with fail
  refine HL'.out.mono ?_; rintro e w2 ⟨bl, rfl, hsm, hb2⟩; have hbw2 := hb1'.out.trans (hb2.mono hb1'.out.size); have b2 := b1'.out.late hb2; clear k0 k1 k2 k3 hb2
  cases bl with
  | true =>
    have HA2 := HA'.out w2; clear hsm; have hbw2' := Lib.hid hbw2; have HA2' := Lib.hid HA2; clear hbw2 HA2
    go_wp2_with fail
    refine HA2'.out.mono ?_; rintro e w3 ⟨rfl, hb3⟩; have hbw3 := hbw2'.out.trans (hb3.mono hbw2'.out.size); have hbw3' := Lib.hid hbw3; clear hbw3
    go_wp2
    go_ret
    exact LawR.mk rfl hbw3'.out
  | false =>
    obtain ⟨hsh, hs1, hs2, hs3, hs4⟩ := hsm rfl; have hP := hs'.out.few hsh; have hpw : ∀ p ∈ s.ps, Wf p.1 ∧ Wf p.2.1 := fun p hp => ⟨(hs'.out.ok p hp).wfh, (hs'.out.ok p hp).wfv⟩; have hl := hP.ilen; have HM := scmay_any s pa pn pc w2 (hP.mono hbw2) hw1'.out hw2'.out hw3'.out hpw; obtain ⟨k0, k1, k2, k3⟩ := hcs'.out w2 b2; clear hsm hsh; have hbw2' := Lib.hid hbw2; have b2' := Lib.hid b2; have hP' := Lib.hid hP; have hpw' := Lib.hid hpw; have hl' := Lib.hid hl; have HM' := Lib.hid HM; have hs1' := Lib.hid hs1; have hs2' := Lib.hid hs2; have hs3' := Lib.hid hs3; have hs4' := Lib.hid hs4; clear hbw2 b2 hP hpw hl HM hs1 hs2 hs3 hs4
    go_wp2_with fail
    refine HM'.out.mono ?_; rintro e w3 ⟨rfl, hb3⟩; have hbw3 := hbw2'.out.trans (hb3.mono hbw2'.out.size); have b3 := b2'.out.late hb3; clear k0 k1 k2 k3 hb3; obtain ⟨M, hM⟩ : ∃ M, mayS s = M := ⟨_, rfl⟩; rw [hM]
    cases M with
    | false =>
      have HA2 := HA'.out w3; have hbw3' := Lib.hid hbw3; have HA2' := Lib.hid HA2; have hM' := Lib.hid hM; clear hbw3 HA2 hM
      go_wp2_with fail
      refine HA2'.out.mono ?_; rintro e w4 ⟨rfl, hb4⟩; have hbw4 := hbw3'.out.trans (hb4.mono hbw3'.out.size); have hbw4' := Lib.hid hbw4; clear hbw4
      go_wp2
      go_ret
      exact LawR.mk rfl hbw4'.out
    | true =>
      have HO := scorder_any s pa pn pc w3 (hP'.out.mono hbw3) hw1'.out hw2'.out hw3'.out hpw'.out; rw [hM, if_pos rfl] at HO; obtain ⟨htop, hpts, hsum⟩ := mayS_parts hM; obtain ⟨k0, k1, k2, k3⟩ := hcs'.out w3 b3; have hbw3' := Lib.hid hbw3; have b3' := Lib.hid b3; have HO' := Lib.hid HO; have hM' := Lib.hid hM; have htop' := Lib.hid htop; have hpts' := Lib.hid hpts; clear hbw3 b3 HO hM htop hpts
      go_wp2_with fail
      refine HO'.out.mono ?_; rintro e w4 ⟨ao, no, co, rfl, hb4, hoo⟩; have hbw4 := hbw3'.out.trans (hb4.mono hbw3'.out.size); have b4 := b3'.out.late hb4; have so4 := (Sl.of_own hoo).1; clear k0 k1 k2 k3 hb4 hoo; obtain ⟨a, ha⟩ : ∃ a : Nat, s.ax = a := ⟨s.ax.toNat, by have := htop'.out; omega⟩; obtain ⟨d, hd⟩ : ∃ d : Nat, s.dn = d := ⟨s.dn.toNat, by have := htop'.out; omega⟩; have ha1 : 1 ≤ a ∧ a ≤ 512 := by have := htop'.out; omega
      have hd1 : 1 ≤ d ∧ d ≤ 512 := by have := htop'.out; omega
      have hpn4 : 1 ≤ pn ∧ pn ≤ 4 := by have := htop'.out; have := hl'.out; omega
      rw [ha, hd] at b4; have hcs2 : ∀ W, Blk W w.heap.size 24 #[.int .i64 (a : Int), .int .i64 (d : Int), .slice pa pn pc, .int .i64 s.iv] → W.cell? ⟨w.heap.size, 0, none⟩ = some (.int .i64 (a : Int)) ∧ W.cell? ⟨w.heap.size, 1, none⟩ = some (.int .i64 (d : Int)) ∧ W.cell? ⟨w.heap.size, 2, none⟩ = some (.slice pa pn pc) := fun W b => ⟨b.cell rfl, b.cell rfl, b.cell rfl⟩; obtain ⟨N, hN⟩ : ∃ N, a * d = N := ⟨_, rfl⟩; have hN2 : N ≤ 262144 := by rw [← hN]; exact Nat.le_trans (Nat.mul_le_mul ha1.2 hd1.2) (by omega)
      have hN1 : 0 < N := by rw [← hN]; exact Nat.mul_pos ha1.1 hd1.1
      have eN : IntKind.i64.wrap ((a : Int) * d) = N := by rw [← Int.natCast_mul, hN]; exact wrapN (by omega)
      have hord : orderS s = placesI (unitsS a s.ps N) := by
        unfold orderS; rw [ha, hd, Int.toNat_natCast, ← Int.natCast_mul, hN, Int.toNat_natCast]
      rw [hord] at so4; have htl := fun k hk => totS_le (k := k) hpts'.out hN2 k hk; have hbl0 := Below.refl w4.heap.size w4; have hbw4' := Lib.hid hbw4; have b4' := Lib.hid b4; have so4' := Lib.hid so4; have ha' := Lib.hid ha; have hd' := Lib.hid hd; have ha1' := Lib.hid ha1; have hd1' := Lib.hid hd1; have hcs2' := Lib.hid hcs2; have hN' := Lib.hid hN; have hN1' := Lib.hid hN1; have hord' := Lib.hid hord; have htl' := Lib.hid htl; have hbl0' := Lib.hid hbl0; clear hbw4 b4 so4 ha hd ha1 hd1 hcs2 hN hN1 hord htl hbl0
      go_wp2
      go_loopw [4, 5, 6, 7] (fun sv tv xv _ wr => ∃ (k : Nat) (a4 : Option Addr) (c4 : Nat) (L : List (Nat × List Int)), k ≤ pn ∧ xv = .int .i64 k ∧ sv = .slice a4 k c4 ∧ tv = .int .i64 (totS N (s.ps.take k) : Nat) ∧ Hid (OutI w4.heap.size wr a4 k c4 L) ∧ Hid (∀ (i : Nat) x p, L[i]? = some x → s.ps[i]? = some p → x.2 = List.replicate (N * p.1.toNat * p.2.1.toNat) 0) ∧ Hid (Below w4.heap.size w4 wr)) (fun _ _ xv _ _ => pn - (intOf xv).toNat)
      case atStart => exact ⟨0, none, 0, [], by omega, rfl, rfl, rfl, Lib.hid ⟨own_nil _ _ _ _, (fun i x hx => by cases hx), (fun i j x y hx => by cases hx)⟩, Lib.hid (fun i x p hx => by cases hx), hbl0'⟩
      case round =>
        rename World => wo
        obtain ⟨k, a4, c4, L, hk, rfl, rfl, rfl, hout, hzero, hbel⟩ := hrel; obtain ⟨k0, k1, k2⟩ := hcs2'.out wo (b4'.out.late hbel.out)
        by_cases hlt : k < pn
        · obtain ⟨p, hp⟩ : ∃ p, s.ps[k]? = some p := ⟨_, List.getElem?_eq_getElem (by rw [hl'.out]; exact hlt)⟩
          have hbwo := hbw4'.out.trans (hbel.out.mono hbw4'.out.size); obtain ⟨pb, o, hpa, hpb, f⟩ := (hP'.out.mono hbwo).elem hp; have hpm := mayPt_bd (hpts'.out k p hp); have hsn := totS_snoc (N := N) hp; have hle1 := htl'.out (k + 1) (by have := hl'.out; omega); obtain ⟨x, y, hdc, hac⟩ := p; simp only at hpm hsn; obtain ⟨h, rfl⟩ : ∃ h : Nat, x = h := ⟨x.toNat, by omega⟩; obtain ⟨v, rfl⟩ : ∃ h : Nat, y = h := ⟨y.toNat, by omega⟩; rw [Int.toNat_natCast, Int.toNat_natCast] at hsn; obtain ⟨x2, hx2⟩ : ∃ z, N * h = z := ⟨_, rfl⟩; obtain ⟨z, hz⟩ : ∃ z, x2 * v = z := ⟨_, rfl⟩; have bx : x2 ≤ 262144 * 4 := by rw [← hx2]; exact Nat.mul_le_mul hN2 (by omega)
          have bz : z ≤ 262144 * 4 * 4 := by rw [← hz]; exact Nat.mul_le_mul bx (by omega)
          have e2 : IntKind.i64.wrap ((N : Int) * h) = x2 := by rw [← Int.natCast_mul, hx2]; exact wrapN (by omega)
          have e3 : IntKind.i64.wrap ((x2 : Int) * v) = z := by rw [← Int.natCast_mul, hz]; exact wrapN (by omega)
          rw [hx2, hz] at hsn; have f0 : wo.cell? ⟨pb, o + k * 36, none⟩ = some (.int .i64 (h : Int)) := f 0 _ rfl; have f1 : wo.cell? ⟨pb, o + k * 36 + 1, none⟩ = some (.int .i64 (v : Int)) := f 1 _ rfl; obtain ⟨T0, hT0⟩ : ∃ T0, totS N (s.ps.take k) = T0 := ⟨_, rfl⟩; rw [hT0] at hsn; rw [hsn] at hle1; simp only [hT0]; subst hpa; clear f hpm; have hp' := Lib.hid hp; have hbwo' := Lib.hid hbwo; have hpb' := Lib.hid hpb; have hsn' := Lib.hid hsn; have hx2' := Lib.hid hx2; have hz' := Lib.hid hz; have hT0' := Lib.hid hT0; clear hp hbwo hpb hsn hx2 hz hT0
          go_wp2
          go_quiet (fail)
          have l5 := Qt.below (⟨nq, rfl⟩ : Qt wo (wo.drewN nq)) wo.heap.size; obtain ⟨w5, hw5⟩ : ∃ W, wo.drewN nq = W := ⟨_, rfl⟩; rw [hw5] at l5 ⊢; have hout5 := hout.out.late l5; have l6 := (Below.refl w5.heap.size w5).alloc (Nat.le_refl _) (.cells (ints .i64 (List.replicate z 0)).toArray 3); have b6 := Blk.new w5 3 (ints .i64 (List.replicate z 0)).toArray; obtain ⟨w6, hw6⟩ : ∃ W, w5.alloc (.cells (ints .i64 (List.replicate z 0)).toArray 3) = W := ⟨_, rfl⟩; rw [hw6] at l6 b6; have l7 := (Below.refl w6.heap.size w6).alloc (Nat.le_refl _) (.cells #[.slice (some ⟨w5.heap.size, 0, none⟩) z z] 35); have s7 := Sl.new w6 35 1 1 #[.slice (some ⟨w5.heap.size, 0, none⟩) z z] (0, 0) (by decide) rfl; have hout7 := (hout5.late l6).late l7; have b7 := b6.late l7; have hbel5 := hbel.out.trans (l5.mono hbel.out.size); have hbel7 := (hbel5.trans (l6.mono hbel5.size)).trans (l7.mono (Nat.le_trans hbel5.size l6.size)); have hfresh : ∀ (i : Nat) x, L[i]? = some x → x.1 ≠ w5.heap.size := fun i x hx => by have := (hout5.blk i x hx).2.lt; omega
          have hws := hbel7.size; clear l5 l6 l7 b6 hout5 hw5 f0 f1 k0 k1 k2; have hw6' := Lib.hid hw6; have s7' := Lib.hid s7; have hout7' := Lib.hid hout7; have b7' := Lib.hid b7; have hbel5' := Lib.hid hbel5; have hbel7' := Lib.hid hbel7; have hfresh' := Lib.hid hfresh; have hws' := Lib.hid hws; clear hw6 s7 hout7 b7 hbel5 hbel7 hfresh hws
          go_wp2_with (first
            | (at_make; refine wpList_make_row _ rfl _ _ 35 rfl 3 i1 (.int .i64 0) Try.underlying35 hi hz0 hz1 rfl .i64 .i64 z rfl rfl (by rw [hz2]; omega) (by omega) ?_; rw [made_ints, hw6'.out])
            | (at_builtin; refine wpList_app3 rfl _ _ 42 rfl w4.heap.size 35 iR _ 1 24 Try.underlying42 hiR hzR0 hzR1 hzR2 rfl (by decide) (.slice a4 k c4) k _ rfl hout7'.out.own (some ⟨w6.heap.size, 0, none⟩) 1 1 [.slice (some ⟨w5.heap.size, 0, none⟩) z z] rfl s7'.out (by simp [Value.oneCell']) (by omega) (by decide) hws'.out ?_; intro a5 c5 w8 ho5 hg5 hk5; have Ho5 := Lib.hid ho5; have Hg5 := Lib.hid hg5; clear ho5 hg5 hk5))
          have hmg := Mo.of_grown (S := fun j => (Value.slice a4 k c4).ownBlock = some j) Hg5.out fun j hj => hj; have hol := hout7'.out.own.lt
          have hout8 := hout7'.out.snoc (g := w5.heap.size) (l := List.replicate z 0) hbel5'.out.size b7'.out hfresh'.out (by
            have := Ho5.out; unfold oiV; rw [List.length_replicate]; exact this) Hg5.out
          have hbel8 := hbel7'.out.trans (Mo.below hmg hbel7'.out.size fun j hj e => by have := (hol j e).1; omega)
          have hzero8 : ∀ (i : Nat) x p, (L ++ [(w5.heap.size, List.replicate z 0)])[i]? = some x → s.ps[i]? = some p → x.2 = List.replicate (N * p.1.toNat * p.2.1.toNat) 0 := fun i x p hx hq => by
            rcases Nat.lt_or_ge i L.length with hi | hi
            · rw [List.getElem?_append_left hi] at hx
              exact hzero.out i x p hx hq
            · have hi2 := (List.getElem?_eq_some_iff.1 hx).1
              rw [List.length_append, List.length_singleton] at hi2; obtain rfl : i = L.length := by omega
              rw [List.getElem?_concat_length] at hx; injection hx with hx; rw [hout7'.out.len, hp'.out] at hq; injection hq with hq; rw [← hx, ← hq]
              show List.replicate z 0 = List.replicate (N * (h : Int).toNat * (v : Int).toNat) 0
              rw [Int.toNat_natCast, Int.toNat_natCast, hx2'.out, hz'.out]
          have hTz : wrap64 ((T0 : Int) + z) = ((T0 + z : Nat) : Int) := by unfold wrap64; omega
          clear hmg hol Ho5 Hg5; have hout8' := Lib.hid hout8; have hbel8' := Lib.hid hbel8; have hzero8' := Lib.hid hzero8; clear hout8 hbel8 hzero8
          go_wp2
          go_roundw
          case rel => exact ⟨k + 1, a5, c5, _, by omega, by go_num, rfl, by rw [hsn'.out]; first | rfl | (simp; omega) | (congr 1), hout8', hzero8', hbel8'⟩
          case measure => simp [intOf]; omega
        · have hkn : k = pn := by omega
          have htk : s.ps.take k = s.ps := List.take_of_length_le (by have := hl'.out; omega); obtain ⟨U, hU⟩ : ∃ U, unitN s.ps = U := ⟨_, rfl⟩; obtain ⟨T, hT⟩ : ∃ T, N * U = T := ⟨_, rfl⟩; have hTe : totS N (s.ps.take k) = T := by rw [htk, totS_all, hU, hT]
          have hT2 : T ≤ 16777216 := by rw [← hTe]; have := htl'.out k (by have := hl'.out; omega); omega
          have hno : no = 2 * T := by
            have h1 := so4'.out.ilen; rw [placesI_len, unitsS_len, hU, hT] at h1; exact h1.symm
          have hne : ((no : Int) != 2 * (T : Int)) = false := by simp; omega
          have hN0 : ¬ (N : Int) = 0 := by have := hN1'.out; omega
          have hquo : Int.tdiv (T : Int) (N : Int) = (U : Int) := by
            rw [← Int.ofNat_tdiv, ← hT, Nat.mul_div_cancel_left _ hN1'.out]
          have hUw : IntKind.i64.wrap (U : Int) = U := wrapN (by
            have h1 : U ≤ N * U := Nat.le_mul_of_pos_left _ hN1'.out
            omega)
          have hU2 : U ≤ 16777216 := by
            have h1 : U ≤ N * U := Nat.le_mul_of_pos_left _ hN1'.out
            omega
          have hstep := fun j (hj : j < N * U) => order_step (a := a) (d := d) (k := j) ha1'.out.1 hpts'.out hU (by rw [hN'.out]; exact hj); rw [hN'.out, hT] at hstep
          have hlen : ∀ (i : Nat) x p, L[i]? = some x → s.ps[i]? = some p → x.2.length = a * p.1.toNat * d * p.2.1.toNat := fun i x p hx hq => by
            rw [hzero.out i x p hx hq, List.length_replicate, ← hN'.out, Nat.mul_assoc a d, Nat.mul_comm d, ← Nat.mul_assoc]
          have hfree : ∀ (i : Nat) x at', L[i]? = some x → at' < x.2.length → (i, at') ∉ (unitsS a s.ps N).take 0 → x.2[at']? = some 0 := fun i x at' hx ht _ => by
            obtain ⟨p, hq⟩ : ∃ p, s.ps[i]? = some p := ⟨_, List.getElem?_eq_getElem (by have := (List.getElem?_eq_some_iff.1 hx).1; have := hout.out.len; have := hl'.out; omega)⟩; have h1 := hzero.out i x p hx hq; rw [h1, List.length_replicate] at ht; rw [h1, List.getElem?_replicate, if_pos ht]
          simp only [hTe]; have hlp : L.length = pn := by rw [hout.out.len]; exact hkn
          have hTU : T = N * U := hT.symm; clear htk hTe hU hT hzero hkn; have hstep' := Lib.hid hstep; have hlen' := Lib.hid hlen; have hfree' := Lib.hid hfree; have hno' := Lib.hid hno; have hlp' := Lib.hid hlp; have hTU' := Lib.hid hTU; clear hstep hlen hfree hno hlp hTU
          go_wp2
          clear k0 k1 k2 hne hquo hUw
          go_loopw [9, 10, 11, 12, 13, 14, 15] (fun xv _ _ _ _ _ _ wr => ∃ (j : Nat) (L : List (Nat × List Int)), j ≤ T ∧ xv = .int .i64 j ∧ Hid (OutI w4.heap.size wr a4 k c4 L) ∧ Hid (∀ (i : Nat) x p, L[i]? = some x → s.ps[i]? = some p → x.2.length = a * p.1.toNat * d * p.2.1.toNat) ∧ Hid (∀ (i : Nat) x at', L[i]? = some x → at' < x.2.length → (i, at') ∉ (unitsS a s.ps N).take j → x.2[at']? = some 0) ∧ Hid (Below w4.heap.size w4 wr) ∧ Hid (L.length = pn)) (fun xv _ _ _ _ _ _ _ => T - (intOf xv).toNat)
          case atStart => exact ⟨0, L, by omega, rfl, hout, hlen', hfree', hbel, hlp'⟩
          case round =>
            rename World => wr
            obtain ⟨j, L, hj, rfl, hout, hlen, hfree, hbel, hlp⟩ := hrel
            by_cases hjt : j < T
            · obtain ⟨y, p, hy, hp, hyl, hnew, hrow, hprev⟩ := hstep'.out j hjt
              have hbwr := hbw4'.out.trans (hbel.out.mono hbw4'.out.size); obtain ⟨g0, g1⟩ := placesI_get _ j y hy; have hno2 := hno'.out
              have hU0 : 0 < U := by
                have h1 := hTU'.out
                rcases Nat.eq_zero_or_pos U with h | h
                · rw [h, Nat.mul_zero] at h1; omega
                · exact h
              obtain ⟨ob, oo, hao, hob, fo⟩ := (so4'.out.mono hbel.out).at (show 2 * j < no by omega); have q0 := fo (2 * j) (.int .i64 (y.1 : Int)) (by unfold ints; rw [List.getElem?_map, g0]; rfl); have q1 := fo (2 * j + 1) (.int .i64 (y.2 : Int)) (by unfold ints; rw [List.getElem?_map, g1]; rfl)
              have hprev2 : 0 < j % U → ∃ z : Nat × Nat, wr.cell? ⟨ob, oo + 2 * (j - 1), none⟩ = some (.int .i64 (z.1 : Int)) ∧ z.1 ≤ y.1 := fun h => by
                obtain ⟨z, hz, hzy⟩ := hprev h; obtain ⟨gz, _⟩ := placesI_get _ (j - 1) z hz; exact ⟨z, fo (2 * (j - 1)) _ (by unfold ints; rw [List.getElem?_map, gz]; rfl), hzy⟩
              have hyk : y.1 < pn := by rw [← hl'.out]; exact (List.getElem?_eq_some_iff.1 hp).1
              obtain ⟨x, hx⟩ : ∃ x, L[y.1]? = some x := ⟨_, List.getElem?_eq_getElem (by rw [hlp.out]; exact hyk)⟩; have hxl := hlen.out y.1 x p hx hp; have hyx : y.2 < x.2.length := by rw [hxl]; exact hyl
              have hx0 := hfree.out y.1 x y.2 hx hyx hnew; obtain ⟨hxB, hxb⟩ := hout.out.blk y.1 x hx; obtain ⟨gs, ha4, hgs, hcs3⟩ := hout.out.cell hx; have cx : wr.cell? ⟨x.1, y.2, none⟩ = some (.int .i64 0) := hxb.cell (by rw [List.getElem?_toArray]; unfold ints; rw [List.getElem?_map, hx0]; rfl); obtain ⟨pb, o, hpa, hpb, f⟩ := hP'.out.elem hp; have hpm := mayPt_bd (hpts'.out y.1 p hp); have hkpn : k = pn := by have := hout.out.len; have := hlp.out; omega
              obtain ⟨px, py, hdc, hac⟩ := p; simp only at hpm hyl hrow hxl; obtain ⟨h, rfl⟩ : ∃ h : Nat, px = h := ⟨px.toNat, by omega⟩; obtain ⟨v, rfl⟩ : ∃ h : Nat, py = h := ⟨py.toNat, by omega⟩; rw [Int.toNat_natCast, Int.toNat_natCast] at hyl hxl; simp only [Int.toNat_natCast] at hrow; have f0 : w.cell? ⟨pb, o + y.1 * 36, none⟩ = some (.int .i64 (h : Int)) := f 0 _ rfl; have f1 : w.cell? ⟨pb, o + y.1 * 36 + 1, none⟩ = some (.int .i64 (v : Int)) := f 1 _ rfl; obtain ⟨y0, y1⟩ := y; obtain ⟨xg, xl⟩ := x; simp only at q0 q1 hprev2 hyk hyx hx0 hxb hxB hcs3 cx f0 f1 hrow hyl; have hcs3 : wr.cell? ⟨gs, y0, none⟩ = some (.slice (some ⟨xg, 0, none⟩) xl.length xl.length) := hcs3; obtain ⟨k2, hk2⟩ : ∃ k2, 2 * j = k2 := ⟨_, rfl⟩; rw [hk2] at q0 q1; have ek2 : wrap64 (2 * (j : Int)) = (k2 : Int) := by unfold wrap64; omega
              obtain ⟨m, hm⟩ : ∃ m, j % U = m := ⟨_, rfl⟩; have hU00 : ¬ (U : Int) = 0 := by omega
              have emod : Int.tmod (j : Int) (U : Int) = (m : Int) := by rw [← hm]; exact (Int.ofNat_tmod j U).symm
              have hmj : m ≤ j := by rw [← hm]; exact Nat.mod_le _ _
              have emw : IntKind.i64.wrap (m : Int) = m := wrapN (by omega); have hk2b : k2 + 1 < no := by omega
              have hno3 : no ≤ 33554432 := by omega
              replace hxl : xl.length = a * h * d * v := hxl
              have hxlen : xl.length ≤ 4194304 := by
                have b1 : a * h ≤ 512 * 4 := Nat.mul_le_mul ha1'.out.2 (by omega); have b2 : a * h * d ≤ 512 * 4 * 512 := Nat.mul_le_mul b1 hd1'.out.2; have b3 : a * h * d * v ≤ 512 * 4 * 512 * 4 := Nat.mul_le_mul b2 (by omega)
                omega
              have hyk2 : y0 < k := by omega
              have c00 : ((0 : Int) != 0) = false := by decide
              subst hao; subst ha4; have hk2z := hk2; have hh4 : 1 ≤ h ∧ h ≤ 4 := by omega
              have hv4 : 1 ≤ v ∧ v ≤ 4 := by omega
              have hy1b : y1 < 4194304 := by omega
              clear fo g0 g1 f hprev hnew hpm hk2 hno2; have hy' := Lib.hid hy; have hp' := Lib.hid hp; have hbwr' := Lib.hid hbwr; have hob' := Lib.hid hob; have hx' := Lib.hid hx; have hxl' := Lib.hid hxl; have hx0' := Lib.hid hx0; have hxB' := Lib.hid hxB; have hxb' := Lib.hid hxb; have hgs' := Lib.hid hgs; have hpb' := Lib.hid hpb; have hrow' := Lib.hid hrow; have hyl' := Lib.hid hyl; have f0' := Lib.hid f0; have f1' := Lib.hid f1; have hm' := Lib.hid hm; have hkpn' := Lib.hid hkpn; have hpa' := Lib.hid hpa; have hlp' := Lib.hid hlp; clear hy hp hbwr hob hx hxl hx0 hxB hxb hgs hpb hrow hyl f0 f1 hm hkpn hpa hlp
              go_upto_region 18 with fail
              go_quiet (fail)
              have q5 : Qt wr (wr.drewN nq) := ⟨nq, rfl⟩; obtain ⟨w5, hw5⟩ : ∃ W, wr.drewN nq = W := ⟨_, rfl⟩; rw [hw5] at q5 ⊢; have l5 := q5.below wr.heap.size; have hbel5 := hbel.out.trans (l5.mono hbel.out.size); have hout5 := hout.out.late l5; have hxb5 := hxb'.out.late l5; have hx5 : w5.cell? ⟨xg, y1, none⟩ = some (.int .i64 0) := hxb5.cell (by rw [List.getElem?_toArray]; unfold ints; rw [List.getElem?_map, hx0'.out]; rfl); have hcs5 : w5.cell? ⟨gs, y0, none⟩ = some (.slice (some ⟨xg, 0, none⟩) xl.length xl.length) := (l5.cell (p := ⟨gs, y0, none⟩) hgs'.out).trans hcs3; have hk24 : 0 < m → 1 ≤ j := fun h0 => by omega
              have hj2b : 2 * j + 1 < no := by omega
              have hprev5 : 0 < m → ∃ z : Nat × Nat, w5.cell? ⟨ob, oo + (2 * j - 2), none⟩ = some (.int .i64 (z.1 : Int)) ∧ z.1 ≤ y0 := fun h0 => by
                obtain ⟨z, q2, hz⟩ := hprev2 (by rw [hm'.out]; exact h0); rw [show 2 * (j - 1) = 2 * j - 2 by omega] at q2; exact ⟨z, (l5.cell (p := ⟨ob, _, none⟩) hob'.out).trans q2, hz⟩
              have fz := hxb5.frozen y1; clear hw5 q5 l5 q0 q1 hprev2 cx hcs3 hk2z; have hbel5' := Lib.hid hbel5; have hout5' := Lib.hid hout5; have hxb5' := Lib.hid hxb5; clear hbel5 hout5 hxb5
              go_upto_region 19 with fail
              go_cut [134] from 88 to 133 (fun v wx => v = .bool false ∧ wx = w5)
              case first =>
                rcases Nat.eq_zero_or_pos m with hm0 | hm0
                · subst hm0
                  go_wp2_with fail
                  go_meet
                  exact ⟨by first | rfl | (congr 1; simp; omega), rfl⟩
                · obtain ⟨⟨z, z'⟩, q2, hz⟩ := hprev5 hm0
                  simp only at q2 hz; have hj24 := hk24 hm0; have hzn : ¬ ((y0 : Int) < z) := by omega
                  clear hprev5 hk24
                  go_wp2_with fail
                  go_meet
                  exact ⟨by first | rfl | (congr 1; simp; omega), rfl⟩
              case rest =>
              obtain ⟨rfl, hwx⟩ := hcut; rw [hwx]; clear hprev5 hk24 hwx
              go_upto_region 22 with fail
              obtain ⟨w6, hw6⟩ : ∃ W, w5.setCell ⟨xg, y1, none⟩ (.int .i64 1) = W := ⟨_, rfl⟩; have hout6 := hout5'.out.put hx'.out y1 1; have hbt := (But.refl xg w5).set y1 (.int .i64 1)
              try rw [hw6]
              rw [hw6] at hout6 hbt; have hbel6 := hbel5'.out.trans (hbt.below hxB'.out hbel5'.out.size); have hbwr6 := hbw4'.out.trans (hbel6.mono hbw4'.out.size); have f0 : w6.cell? ⟨pb, o + y0 * 36, none⟩ = some (.int .i64 (h : Int)) := (hbwr6.cell (p := ⟨pb, _, none⟩) hpb'.out).trans f0'.out; have f1 : w6.cell? ⟨pb, o + y0 * 36 + 1, none⟩ = some (.int .i64 (v : Int)) := (hbwr6.cell (p := ⟨pb, _, none⟩) hpb'.out).trans f1'.out; obtain ⟨k0, k1, k2⟩ := hcs2'.out w6 (b4'.out.late hbel6); rw [hpa'.out] at k2; have ha2 := ha1'.out; obtain ⟨ah, hah⟩ : ∃ ah, a * h = ah := ⟨_, rfl⟩; have bah : ah ≤ 2048 ∧ 1 ≤ ah := by rw [← hah]; exact ⟨Nat.mul_le_mul ha2.2 (by omega : h ≤ 4), Nat.mul_pos ha2.1 (by omega)⟩
              have eah : IntKind.i64.wrap ((a : Int) * h) = (ah : Int) := by rw [← Int.natCast_mul, hah]; exact wrapN (by omega)
              have hah0 : ¬ (ah : Int) = 0 := by omega
              have hrow := hrow'.out; rw [hah] at hrow; obtain ⟨R, hR⟩ : ∃ R, y1 / ah = R := ⟨_, rfl⟩; obtain ⟨C, hC⟩ : ∃ C, y1 % ah = C := ⟨_, rfl⟩; have bR : R ≤ y1 := by rw [← hR]; exact Nat.div_le_self _ _
              have bC : C < ah := by rw [← hC]; exact Nat.mod_lt _ (by omega)
              have eR : Int.tdiv (y1 : Int) (ah : Int) = (R : Int) := by rw [← hR]; exact (Int.ofNat_tdiv y1 ah).symm
              have eC : Int.tmod (y1 : Int) (ah : Int) = (C : Int) := by rw [← hC]; exact (Int.ofNat_tmod y1 ah).symm
              rw [hR, hC] at hrow; have eRw : IntKind.i64.wrap (R : Int) = R := wrapN (by omega); have eCw : IntKind.i64.wrap (C : Int) = C := wrapN (by omega); obtain ⟨Rv, hRv⟩ : ∃ x, R / v = x := ⟨_, rfl⟩; obtain ⟨Ch, hCh⟩ : ∃ x, C / h = x := ⟨_, rfl⟩; have bRv : Rv ≤ R := by rw [← hRv]; exact Nat.div_le_self _ _
              have bCh : Ch ≤ C := by rw [← hCh]; exact Nat.div_le_self _ _
              have eRv : Int.tdiv (R : Int) (v : Int) = (Rv : Int) := by rw [← hRv]; exact (Int.ofNat_tdiv R v).symm
              have eCh : Int.tdiv (C : Int) (h : Int) = (Ch : Int) := by rw [← hCh]; exact (Int.ofNat_tdiv C h).symm
              have eRvw : IntKind.i64.wrap (Rv : Int) = Rv := wrapN (by omega); have eChw : IntKind.i64.wrap (Ch : Int) = Ch := wrapN (by omega); have hv0 : ¬ (v : Int) = 0 := by omega
              have hh0 : ¬ (h : Int) = 0 := by omega
              rw [hRv, hCh] at hrow; obtain ⟨Ra, hRa⟩ : ∃ x, Rv * a = x := ⟨_, rfl⟩; have bRa : Ra ≤ 4194304 * 512 := by rw [← hRa]; exact Nat.mul_le_mul (by omega) ha2.2
              have eRa : IntKind.i64.wrap ((Rv : Int) * a) = (Ra : Int) := by rw [← Int.natCast_mul, hRa]; exact wrapN (by omega)
              obtain ⟨J, hJ⟩ : ∃ x, j / U = x := ⟨_, rfl⟩; have eJ : Int.tdiv (j : Int) (U : Int) = (J : Int) := by rw [← hJ]; exact (Int.ofNat_tdiv j U).symm
              have bJ : J ≤ j := by rw [← hJ]; exact Nat.div_le_self _ _
              have eJw : IntKind.i64.wrap (J : Int) = J := wrapN (by omega); rw [hRa, hJ] at hrow; have esum : wrap64 ((Ra : Int) + Ch) = (J : Int) := by unfold wrap64; omega
              have cJ : ((J : Int) != (J : Int)) = false := by simp
              have hsz6 := hbt.size; clear hw6 hbt fz hcs5 hx5 hR hC hRv hCh hRa hJ bR bRv bRa bCh bC; have hout6' := Lib.hid hout6; have hbel6' := Lib.hid hbel6; have hbwr6' := Lib.hid hbwr6; have hah' := Lib.hid hah; have hrow' := Lib.hid hrow; have bah' := Lib.hid bah; have ha2' := Lib.hid ha2; clear hout6 hbel6 hbwr6 hah hrow bah ha2
              go_wp2
              go_quiet (fail)
              go_wp2
              go_quiet (fail)
              go_wp2
              go_quiet (fail)
              go_wp2
              have hx7 := hx'.out; have hil := (List.getElem?_eq_some_iff.1 hx7).1
              have hlen6 : ∀ (i : Nat) x p, (L.set y0 (xg, xl.set y1 1))[i]? = some x → s.ps[i]? = some p → x.2.length = a * p.1.toNat * d * p.2.1.toNat := fun i x p hx hq => by
                by_cases hi : y0 = i
                · subst hi
                  rw [List.getElem?_set_self hil] at hx; injection hx with hx; rw [← hx]
                  show (xl.set y1 1).length = _
                  rw [List.length_set]; exact hlen.out y0 (xg, xl) p hx7 hq
                · rw [List.getElem?_set_ne hi] at hx
                  exact hlen.out i x p hx hq
              have hfree6 : ∀ (i : Nat) x at', (L.set y0 (xg, xl.set y1 1))[i]? = some x → at' < x.2.length → (i, at') ∉ (unitsS a s.ps N).take (j + 1) → x.2[at']? = some 0 := fun i x at' hx ht hn => by
                rw [List.take_add_one, hy'.out] at hn; have hn1 : (i, at') ∉ (unitsS a s.ps N).take j := fun h => hn (List.mem_append_left _ h); have hn2 : (i, at') ≠ (y0, y1) := fun h => hn (List.mem_append_right _ (by rw [h]; exact List.mem_singleton.2 rfl))
                by_cases hi : y0 = i
                · subst hi
                  rw [List.getElem?_set_self hil] at hx; injection hx with hx; rw [← hx] at ht ⊢; have ht2 : at' < (xl.set y1 1).length := ht; rw [List.length_set] at ht2; have h0 := hfree.out y0 (xg, xl) at' hx7 ht2 hn1
                  show (xl.set y1 1)[at']? = some 0
                  rw [List.getElem?_set_ne (fun h => hn2 (by rw [h]))]; exact h0
                · rw [List.getElem?_set_ne hi] at hx
                  exact hfree.out i x at' hx ht hn1
              have hlp6 : (L.set y0 (xg, xl.set y1 1)).length = pn := by rw [List.length_set]; exact hlp'.out
              have bel6 := hbel6'.out.size; clear hx7 hil; have hlen6' := Lib.hid hlen6; have hfree6' := Lib.hid hfree6; have hlp6' := Lib.hid hlp6; clear hlen6 hfree6 hlp6
              go_roundw
              case rel => exact ⟨j + 1, L.set y0 (xg, xl.set y1 1), by omega, by go_num, Lib.hid (hout6'.out.late (by repeat (first | exact Below.refl _ _ | refine below_drewN ?_ _ | refine Below.drew ?_))), hlen6', hfree6', Lib.hid (hbel6'.out.trans (Below.mono (B := w6.heap.size) (by repeat (first | exact Below.refl _ _ | refine below_drewN ?_ _ | refine Below.drew ?_)) bel6)), hlp6'⟩
              case measure => simp [intOf]; omega
            · have HA2 := HA'.out wr
              have hbw5 := hbw4'.out.trans (hbel.out.mono hbw4'.out.size); have HA2' := Lib.hid HA2; have hbw5' := Lib.hid hbw5; clear HA2 hbw5
              go_wp2_with fail
              refine HA2'.out.mono ?_; rintro e w6 ⟨rfl, hb6⟩; have hbw6 := hbw5'.out.trans (hb6.mono hbw5'.out.size); have hbw6' := Lib.hid hbw6; clear hbw6
              go_wp2
              go_ret
              exact LawR.mk rfl hbw6'.out
end Go.Proofs.Ytpjopeojeglogaa
