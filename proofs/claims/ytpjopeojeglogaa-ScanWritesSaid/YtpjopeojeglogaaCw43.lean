/- Chapter 12: the law ScanWrites. | The closed facts of the row of ScanWrites, each by itself. -/
import Derived.Test.YtpjopeojeglogaaCw18
import Derived.Test.YtpjopeojeglogaaCw33
import Derived.Test.YtpjopeojeglogaaCw29
import Derived.Test.YtpjopeojeglogaaCw30
import Derived.Test.YtpjopeojeglogaaCw41
import Derived.Test.YtpjopeojeglogaaCw42
import Derived.Test.YtpjopeojeglogaaCw05
import Derived.Test.YtpjopeojeglogaaCw00
namespace Go.Proofs.Ytpjopeojeglogaa
open Go.RowKit Tt
set_option linter.unusedVariables false
set_option linter.unusedSimpArgs false

/-- what is answered: bytes and a number -/
def WrR (r : Except Int (List Int)) (z : List Int) (er : Int) : Prop := (r = .ok z ∧ er = 0) ∨ (r = .error er ∧ z = [])
theorem WrR.same {r : Except Int (List Int)} {z z' : List Int} {er er' : Int} (h : WrR r z er) (k : WrR r z' er') : z = z' ∧ er = er' := by
  rcases h with ⟨h1, h2⟩ | ⟨h1, h2⟩
  · rcases k with ⟨k1, k2⟩ | ⟨k1, k2⟩
    · have := h1.symm.trans k1
      injection this with this; exact ⟨this, h2.trans k2.symm⟩
    · have := h1.symm.trans k1
      cases this
  · rcases k with ⟨k1, k2⟩ | ⟨k1, k2⟩
    · have := h1.symm.trans k1
      cases this
    · have := h1.symm.trans k1
      injection this with this; exact ⟨h2.trans k2.symm, this⟩
theorem few_units {s : ScT} (h : mayS s = true) (h1 : ¬ (12 < s.ax ∧ s.ax ≤ 512)) (h2 : ¬ (12 < s.dn ∧ s.dn ≤ 512)) (h3 : ¬ (24 < IntKind.i64.wrap (s.ax * s.dn) ∧ s.ax ≤ 12)) : (s.ax * s.dn).toNat ≤ 26 := by
  obtain ⟨htop, _, _⟩ := mayS_parts h; obtain ⟨a, ha⟩ : ∃ a : Nat, s.ax = a := ⟨s.ax.toNat, by omega⟩; obtain ⟨d, hd⟩ : ∃ d : Nat, s.dn = d := ⟨s.dn.toNat, by omega⟩; rw [ha, hd] at h3 ⊢; have b1 : a * d ≤ 12 * 12 := Nat.mul_le_mul (by omega) (by omega); rw [← Int.natCast_mul] at h3 ⊢; rw [wrapN (by omega)] at h3
  omega
set_option maxRecDepth 100000 in
set_option maxHeartbeats 8000000 in
theorem writes12_law (s : ScT) (bs : List BpM) (pa ba : Option Addr) (pn pc bn bc : Nat) (w : World) (hs : PtsB w pa pn pc s.ps) (hb : BpsR w ba bn bc bs) (hw1 : Wf s.ax) (hw2 : Wf s.dn) (hw3 : Wf s.iv) :
    Calls Try.prog 3 #[.agg #[.int .i64 s.ax, .int .i64 s.dn, .slice pa pn pc, .int .i64 s.iv], .slice ba bn bc] w (LawR w) := by
  have b1 := Blk.new w 24 #[.int .i64 s.ax, .int .i64 s.dn, .slice pa pn pc, .int .i64 s.iv]; have hb1 := (Below.refl w.heap.size w).alloc (Nat.le_refl _) (.cells #[.int .i64 s.ax, .int .i64 s.dn, .slice pa pn pc, .int .i64 s.iv] 24); obtain ⟨W1, hW1⟩ : ∃ W1, w.alloc (.cells #[.int .i64 s.ax, .int .i64 s.dn, .slice pa pn pc, .int .i64 s.iv] 24) = W1 := ⟨_, rfl⟩; rw [hW1] at b1 hb1; have hcs : ∀ W, Blk W w.heap.size 24 #[.int .i64 s.ax, .int .i64 s.dn, .slice pa pn pc, .int .i64 s.iv] → W.cell? ⟨w.heap.size, 0, none⟩ = some (.int .i64 s.ax) ∧ W.cell? ⟨w.heap.size, 1, none⟩ = some (.int .i64 s.dn) ∧ W.cell? ⟨w.heap.size, 2, none⟩ = some (.slice pa pn pc) ∧ W.cell? ⟨w.heap.size, 3, none⟩ = some (.int .i64 s.iv) := fun W b => ⟨b.cell rfl, b.cell rfl, b.cell rfl, b.cell rfl⟩; have HL := large12_any s pa pn pc W1 (hs.mono hb1) hw1 hw2; have HA := awake12_any; have HY := fun W (h : Below w.heap.size w W) => many12_any bs ba bn bc W (hb.mono h); obtain ⟨k0, k1, k2, k3⟩ := hcs W1 b1; have hs' := Lib.hid hs; have hb' := Lib.hid hb; have hw1' := Lib.hid hw1; have hw2' := Lib.hid hw2; have hw3' := Lib.hid hw3; have b1' := Lib.hid b1; have hb1' := Lib.hid hb1; have hW1' := Lib.hid hW1; have hcs' := Lib.hid hcs; have HL' := Lib.hid HL; have HA' := Lib.hid HA; have HY' := Lib.hid HY; clear hs hb hw1 hw2 hw3 b1 hb1 hW1 hcs HL HA HY
  go_enter Try.func3, Try.ntmps3
  go_upto_region 1 with fail
  rw [hW1'.out]
  go_cut [17] from 12 (fun v wx => Hid (Below w.heap.size w wx) ∧ Hid (Blk wx w.heap.size 24 #[.int .i64 s.ax, .int .i64 s.dn, .slice pa pn pc, .int .i64 s.iv]) ∧ (v = .bool true ∨ (v = .bool false ∧ bn ≤ 5 ∧ Hid (SmallSc s ∧ ∀ x ∈ bs, x.2.2.1 ≤ 100))))
  case first =>
    go_wp2_with fail
    refine HL'.out.mono ?_; rintro e w2 ⟨bl, rfl, hsm, hb2⟩; have hbw2 := hb1'.out.trans (hb2.mono hb1'.out.size); have b2 := b1'.out.late hb2; clear k0 k1 k2 k3 hb2
    cases bl with
    | true =>
      clear hsm; have hbw2' := Lib.hid hbw2; have b2' := Lib.hid b2; clear hbw2 b2
      go_wp2
      go_meet
      case rel => exact ⟨hbw2', b2', .inl rfl⟩
    | false =>
      have hsm2 := hsm rfl; have HY2 := HY'.out w2 hbw2; clear hsm; have hbw2' := Lib.hid hbw2; have b2' := Lib.hid b2; have hsm2' := Lib.hid hsm2; have HY2' := Lib.hid HY2; clear hbw2 b2 hsm2 HY2
      go_wp2_with fail
      refine HY2'.out.mono ?_; rintro e w3 ⟨bl, rfl, hmy, hb3⟩; have hbw3 := hbw2'.out.trans (hb3.mono hbw2'.out.size); have b3 := b2'.out.late hb3; clear hb3
      cases bl with
      | true =>
        clear hmy; have hbw3' := Lib.hid hbw3; have b3' := Lib.hid b3; clear hbw3 b3
        go_wp2
        go_meet
        case rel => exact ⟨hbw3', b3', .inl rfl⟩
      | false =>
        obtain ⟨hm5, hm100⟩ := hmy rfl; clear hmy; have hbw3' := Lib.hid hbw3; have b3' := Lib.hid b3; have hm100' := Lib.hid hm100; clear hbw3 b3 hm100
        go_wp2
        go_meet
        case rel => exact ⟨hbw3', b3', .inr ⟨rfl, hm5, Lib.hid ⟨hsm2'.out, hm100'.out⟩⟩⟩
  case rest =>
  clear k0 k1 k2 k3 HL' hb1' b1' HY'; obtain ⟨hbw2, b2, hc⟩ := hcut
  rcases hc with rfl | ⟨rfl, hbn, hsm⟩
  · have HA2 := HA'.out wc
    have HA2' := Lib.hid HA2; clear HA2
    go_wp2_with fail
    refine HA2'.out.mono ?_; rintro e w3 ⟨rfl, hb3⟩; have hbw3 := hbw2.out.trans (hb3.mono hbw2.out.size); clear hb3; have hbw3' := Lib.hid hbw3; clear hbw3
    go_wp2
    go_ret
    exact LawR.mk rfl hbw3'.out
  obtain ⟨⟨hsh, hs1, hs2, hs3, hs4⟩, hm100⟩ := hsm.out; have hP := hs'.out.few hsh; have hpw : ∀ p ∈ s.ps, Wf p.1 ∧ Wf p.2.1 := fun p hp => ⟨(hs'.out.ok p hp).wfh, (hs'.out.ok p hp).wfv⟩; have hfew := fun hm => few_units hm hs1 hs2 hs3; have hl := hP.ilen; have HO := rown12_any bs ba bn bc wc (hb'.out.mono hbw2.out) hbn hm100; clear hsm hs1 hs2 hs3 hs4 hsh; have hP' := Lib.hid hP; have hpw' := Lib.hid hpw; have hl' := Lib.hid hl; have hfew' := Lib.hid hfew; have HO' := Lib.hid HO; have hm100' := Lib.hid hm100; clear hP hpw hl hfew HO hm100
  go_wp2_with fail
  refine HO'.out.mono ?_; rintro e w3 ⟨qa, qn, qc, L, rfl, hL, hLm, hLn, hb3⟩; have hbw3 := hbw2.out.trans (hb3.mono hbw2.out.size); have b3 := b2.out.late hb3; have hLl : L.length = bs.length := by simpa using congrArg List.length hLm
  have hqn : qn = bn := by rw [← hL.ilen, ← hb'.out.ilen, hLl]
  subst hqn
  have hL100 : ∀ x ∈ L, x.2.2.1 ≤ 1000000000 := fun x hx => by
    have h1 : x.2.2.1 ∈ bs.map (·.2.2.1) := by rw [← hLn]; exact List.mem_map_of_mem hx
    obtain ⟨y, hy, e⟩ := List.mem_map.1 h1; have h2 := hm100'.out y hy
    omega
  have HW := write_any s L pa qa pn pc qn qc w3 (hP'.out.mono hbw3) hL (by omega) hL100 hw1'.out hw2'.out hw3'.out hpw'.out hfew'.out; rw [hLm] at HW; obtain ⟨k0, k1, k2, k3⟩ := hcs'.out w3 b3; clear hb3 hLl b2 hbw2; have hbw3' := Lib.hid hbw3; have b3' := Lib.hid b3; have hL' := Lib.hid hL; have hLm' := Lib.hid hLm; have hLn' := Lib.hid hLn; have HW' := Lib.hid HW; clear hbw3 b3 hL hLm hLn HW
  go_wp2_with fail
  refine HW'.out.mono ?_; intro e w4 hres
  obtain ⟨z, ra, rn, rc, er, he, hsl, hWR⟩ : ∃ z ra rn rc er, e = .returned (.tuple #[.slice ra rn rc, .int .i64 er]) ∧ Sl w4 ra rn rc 1 (ints .u8 z) ∧ WrR (writeS s (bs.map (·.1))) z er := by
    rcases hres.1 with ⟨out, a, n, c, h1, h2, h3⟩ | ⟨er, h1, h2, h3⟩
    · exact ⟨out, a, n, c, 0, h2, h3, .inl ⟨h1, rfl⟩⟩
    · exact ⟨[], none, 0, 0, er, h3, Sl.nil _ _, .inr ⟨h1, rfl⟩⟩
  subst he; have hb4 := hres.2; have hbw4 := hbw3'.out.trans (hb4.mono hbw3'.out.size); have b4 := b3'.out.late hb4; have hL4 := hL'.out.mono hb4; have HM := rmay12_any s pa pn pc w4 (hP'.out.mono hbw4) hw1'.out hw2'.out hw3'.out hpw'.out; obtain ⟨M, hM⟩ : ∃ M, mayS s = M := ⟨_, rfl⟩; rw [hM] at HM; clear k0 k1 k2 k3 hres hb4; obtain ⟨k0, k1, k2, k3⟩ := hcs'.out w4 b4; have hbw4' := Lib.hid hbw4; have b4' := Lib.hid b4; have hL4' := Lib.hid hL4; have HM' := Lib.hid HM; have hM' := Lib.hid hM; have hsl' := Lib.hid hsl; have hWR' := Lib.hid hWR; clear hbw4 b4 hL4 HM hM hsl hWR
  go_wp2_with fail
  refine HM'.out.mono ?_; rintro e w5 ⟨rfl, hb5⟩; have hbw5 := hbw4'.out.trans (hb5.mono hbw4'.out.size); have b5 := b4'.out.late hb5; have hL5 := hL4'.out.mono hb5; have sl5 := hsl'.out.mono hb5; have HM5 := scmay_any s pa pn pc w5 (hP'.out.mono hbw5) hw1'.out hw2'.out hw3'.out hpw'.out; rw [hM'.out] at HM5; clear k0 k1 k2 k3 hb5; obtain ⟨k0, k1, k2, k3⟩ := hcs'.out w5 b5; have hbw5' := Lib.hid hbw5; have b5' := Lib.hid b5; have hL5' := Lib.hid hL5; have sl5' := Lib.hid sl5; have HM5' := Lib.hid HM5; clear hbw5 b5 hL5 sl5 HM5
  go_wp2_with fail
  refine HM5'.out.mono ?_; rintro e w6 ⟨rfl, hb6⟩; have hbw6 := hbw5'.out.trans (hb6.mono hbw5'.out.size); have b6 := b5'.out.late hb6; have hL6 := hL5'.out.mono hb6; have sl6 := sl5'.out.mono hb6; have HS := rsame12_eq qa ba qn qc bc L bs w6 hL6 (hb'.out.mono hbw6) hLm'.out (by unfold maxLen; omega); have hMM : (M != M) = false := by simp
  clear k0 k1 k2 k3 hb6; have hbw6' := Lib.hid hbw6; have b6' := Lib.hid b6; have hL6' := Lib.hid hL6; have sl6' := Lib.hid sl6; have HS' := Lib.hid HS; clear hbw6 b6 hL6 sl6 HS
  go_wp2_with fail
  refine HS'.out.mono ?_; rintro e w7 ⟨rfl, hb7⟩; have hbw7 := hbw6'.out.trans (hb7.mono hbw6'.out.size); have b7 := b6'.out.late hb7; have sl7 := sl6'.out.mono hb7; have HO7 := scorder_any s pa pn pc w7 (hP'.out.mono hbw7) hw1'.out hw2'.out hw3'.out hpw'.out; clear hb7 hMM; obtain ⟨k0, k1, k2, k3⟩ := hcs'.out w7 b7; have hbw7' := Lib.hid hbw7; have b7' := Lib.hid b7; have sl7' := Lib.hid sl7; have HO7' := Lib.hid HO7; clear hbw7 b7 sl7 HO7
  go_wp2_with fail
  refine HO7'.out.mono ?_; rintro e w8 ⟨ao, no, co, rfl, hb8, hoo⟩; have hbw8 := hbw7'.out.trans (hb8.mono hbw7'.out.size); have b8 := b7'.out.late hb8; have sl8 := sl7'.out.mono hb8; have so8 := (Sl.of_own hoo).1; rw [hM'.out] at so8; clear k0 k1 k2 k3 hb8 hoo; obtain ⟨k0, k1, k2, k3⟩ := hcs'.out w8 b8; have hm3 : ∀ x ∈ bs, x.2.2.1 ≤ 1000000000 := fun x hx => by have := hm100'.out x hx; omega
  have HWh := fun W (h : Below w.heap.size w W) => rwhole12_any s bs pa ba pn pc qn bc W (hP'.out.mono h) (hb'.out.mono h) (by omega) hm3 hw1'.out hw2'.out hw3'.out hpw'.out; obtain ⟨Q, hQ⟩ : ∃ Q, wholeS s (bs.map (·.1)) = Q := ⟨_, rfl⟩; simp only [hQ] at HWh
  cases M with
  | false =>
    obtain rfl : Q = false := by rw [← hQ]; exact wholeS_may hM'.out
    have hno := so8.ilen; obtain rfl : no = 0 := by rw [← hno]; rfl
    have HWh8 := HWh w8 hbw8; clear hno HWh; have hbw8' := Lib.hid hbw8; have b8' := Lib.hid b8; have sl8' := Lib.hid sl8; have so8' := Lib.hid so8; have hQ' := Lib.hid hQ; have HWh8' := Lib.hid HWh8; have hm3' := Lib.hid hm3; clear hbw8 b8 sl8 so8 hQ HWh8 hm3
    go_wp2_with fail
    refine HWh8'.out.mono ?_; rintro e wx ⟨rfl, hbx⟩; have hbwwx := hbw8'.out.trans (hbx.mono hbw8'.out.size); clear hbx k0 k1 k2 k3; have hbwwx' := Lib.hid hbwwx; clear hbwwx; have hwn := writeS_no hQ'.out
    have hz1 : z = [] ∧ er = 1 := by
      rcases hWR'.out with ⟨h1, _⟩ | ⟨h1, h2⟩
      · rw [hwn] at h1; cases h1
      · rw [hwn] at h1
        injection h1 with h1; exact ⟨h2, h1.symm⟩
    have hrn := hsl'.out.ilen; rw [hz1.1] at hrn; obtain rfl : rn = 0 := hrn.symm; obtain rfl : er = 1 := hz1.2; have HA2 := HA'.out wx; clear hwn hz1 hrn; have HA2' := Lib.hid HA2; clear HA2
    go_wp2_with fail
    refine HA2'.out.mono ?_; rintro e wy ⟨rfl, hby⟩; have hbwy := hbwwx'.out.trans (hby.mono hbwwx'.out.size); clear hby
    have hbwy' := Lib.hid hbwy; clear hbwy
    go_wp2
    go_ret
    exact LawR.mk rfl hbwy'.out
  | true =>
    rw [if_pos rfl] at so8; have HO8 := rorder12_any s pa pn pc w8 (hP'.out.mono hbw8) hM'.out; have hbw8' := Lib.hid hbw8; have b8' := Lib.hid b8; have sl8' := Lib.hid sl8; have so8' := Lib.hid so8; have hQ' := Lib.hid hQ; have HWh' := Lib.hid HWh; have HO8' := Lib.hid HO8; have hm3' := Lib.hid hm3; clear hbw8 b8 sl8 so8 hQ HWh HO8 hm3
    go_wp2_with fail
    refine HO8'.out.mono ?_; rintro e w9 ⟨a2, n2, c2, rfl, ho2, hb9⟩; have hbw9 := hbw8'.out.trans (hb9.mono hbw8'.out.size); have b9 := b8'.out.late hb9; have sl9 := sl8'.out.mono hb9; have so9 := so8'.out.mono hb9; have s29 := (Sl.of_own ho2).1; obtain rfl : no = n2 := so9.ilen.symm.trans s29.ilen; have HRw := lrow_eq ao a2 no co c2 (orderS s) w9 so9 s29; clear hb9 ho2 k0 k1 k2 k3; obtain ⟨k0, k1, k2, k3⟩ := hcs'.out w9 b9; have hbw9' := Lib.hid hbw9; have b9' := Lib.hid b9; have sl9' := Lib.hid sl9; have HRw' := Lib.hid HRw; clear hbw9 b9 sl9 HRw
    go_wp2_with fail
    refine HRw'.out.mono ?_; rintro e wA ⟨rfl, hbA⟩; have hbwA := hbw9'.out.trans (hbA.mono hbw9'.out.size); have bA := b9'.out.late hbA; have slA := sl9'.out.mono hbA; have HWhA := HWh'.out wA hbwA; clear hbA k0 k1 k2 k3; obtain ⟨k0, k1, k2, k3⟩ := hcs'.out wA bA; have hbwA' := Lib.hid hbwA; have bA' := Lib.hid bA; have slA' := Lib.hid slA; have HWhA' := Lib.hid HWhA; clear hbwA bA slA HWhA
    go_wp2_with fail
    refine HWhA'.out.mono ?_; rintro e wx ⟨rfl, hbx⟩; have hbwwx := hbwA'.out.trans (hbx.mono hbwA'.out.size); have bx := bA'.out.late hbx; have slx := slA'.out.mono hbx; clear hbx k0 k1 k2 k3
    cases Q with
    | false =>
      have hbwwx' := Lib.hid hbwwx; clear hbwwx; have hwn := writeS_no hQ'.out
      have hz1 : z = [] ∧ er = 1 := by
        rcases hWR'.out with ⟨h1, _⟩ | ⟨h1, h2⟩
        · rw [hwn] at h1; cases h1
        · rw [hwn] at h1
          injection h1 with h1; exact ⟨h2, h1.symm⟩
      have hrn := hsl'.out.ilen; rw [hz1.1] at hrn; obtain rfl : rn = 0 := hrn.symm; obtain rfl : er = 1 := hz1.2; have HA2 := HA'.out wx; clear hwn hz1 hrn; have HA2' := Lib.hid HA2; clear HA2
      go_wp2_with fail
      refine HA2'.out.mono ?_; rintro e wy ⟨rfl, hby⟩; have hbwy := hbwwx'.out.trans (hby.mono hbwwx'.out.size); clear hby
      have hbwy' := Lib.hid hbwy; clear hbwy
      go_wp2
      go_ret
      exact LawR.mk rfl hbwy'.out
    | true =>
      have HD := rwrite12_any s bs pa ba pn pc qn bc wx (hP'.out.mono hbwwx) (hb'.out.mono hbwwx) hM'.out hQ'.out (hfew'.out hM'.out); obtain ⟨k0, k1, k2, k3⟩ := hcs'.out wx bx; have hbwwx' := Lib.hid hbwwx; have bx' := Lib.hid bx; have slx' := Lib.hid slx; have HD' := Lib.hid HD; clear hbwwx bx slx HD
      go_wp2_with fail
      refine HD'.out.mono ?_; intro e wy hres
      obtain ⟨z2, ra2, rn2, rc2, er2, he, hsl2, hWR2⟩ : ∃ z ra rn rc er, e = .returned (.tuple #[.slice ra rn rc, .int .i64 er]) ∧ Sl wy ra rn rc 1 (ints .u8 z) ∧ WrR (writeS s (bs.map (·.1))) z er := by
        rcases hres.1 with ⟨out, a, n, c, h1, h2, h3⟩ | ⟨er, h1, h3⟩
        · exact ⟨out, a, n, c, 0, h2, h3, .inl ⟨h1, rfl⟩⟩
        · exact ⟨[], none, 0, 0, er, h3, Sl.nil _ _, .inr ⟨h1, rfl⟩⟩
      subst he; obtain ⟨rfl, rfl⟩ := hWR'.out.same hWR2; have hbwwy := hbwwx'.out.trans (hres.2.mono hbwwx'.out.size); have sly := slx'.out.mono hres.2; obtain ⟨j1, j2⟩ := str_same z; have e1 := conv8 sly; have e2 := conv8 hsl2; have HA2 := HA'.out wy; have nn : (er == er) = true := by simp
      clear k0 k1 k2 k3 hres hWR2; have hbwwy' := Lib.hid hbwwy; have sly' := Lib.hid sly; have hsl2' := Lib.hid hsl2; have HA2' := Lib.hid HA2; clear hbwwy sly hsl2 HA2
      go_wp2_with fail
      refine HA2'.out.mono ?_; rintro e wz ⟨rfl, hbz⟩; have hbwz := hbwwy'.out.trans (hbz.mono hbwwy'.out.size); clear hbz e1 e2; have hbwz' := Lib.hid hbwz; clear hbwz
      go_wp2
      go_ret
      exact LawR.mk rfl hbwz'.out
end Go.Proofs.Ytpjopeojeglogaa

namespace Go.Proofs.Ytpjopeojeglogaa.scanWrites
theorem band {a b : Bool} (h1 : a = true) (h2 : b = true) : (a && b) = true := by rw [h1, h2]; rfl
set_option maxRecDepth 100000 in
set_option maxHeartbeats 8000000 in
theorem joined : joinedFacts Try.pinned.checked.prog 3 Try.f3 Rows.scanWritesSpec Rows.scanWritesRow = true := by
  unfold joinedFacts
  repeat' (with_reducible apply band)
  all_goals as_aux_lemma => kernel_rfl
end Go.Proofs.Ytpjopeojeglogaa.scanWrites
