/- Chapter 12, the document's side: Count. -/
import Derived.Test.YtpjopeojeglogaaCs36
import Derived.Test.YtpjopeojeglogaaCs37
namespace Go.Proofs.Ytpjopeojeglogaa
open Go.RowKit Tt
set_option linter.unusedVariables false
set_option linter.unusedSimpArgs false

/-- all symbols told, each with its plane -/
abbrev TrC := List (Nat × Cod)
def putC (t : TrC) (part : Nat) (x : Cod) : Except Int TrC := .ok (t ++ [(part, x)])
def againC (t : TrC) (_ : Nat) : TrC := t
def tellC (s : ScT) (bs : List (List (List Int))) : Except Int (TrC × List Int) := tellS putC againC s bs []
def cntC (t : TrC) (part ac sym : Int) : Nat := (t.filter fun q => (q.1 : Int) == part && q.2.1 == ac && q.2.2.1 == sym).length
def cntV (r : Except Int (TrC × List Int)) (part ac sym : Int) : Int := match r with
  | .error _ => -1
  | .ok t => (cntC t.1 part ac sym : Nat)
theorem putL_C (part : Nat) (l : List Cod) : ∀ t : TrC, putL putC part t l = .ok (t ++ l.map fun x => (part, x)) := by
  unfold putL
  induction l with
  | nil => intro t; rw [List.map_nil, List.append_nil]; rfl
  | cons x l ih =>
    intro t; rw [List.foldlM_cons]
    show (putC t part x).bind _ = _
    show List.foldlM _ (t ++ [(part, x)]) l = _
    rw [ih, List.map_cons, List.append_assoc]
    rfl
theorem cntC_snoc {t : TrC} {q : Nat × Cod} {part ac sym : Int} : cntC (t ++ [q]) part ac sym = cntC t part ac sym + if ((q.1 : Int) == part && q.2.1 == ac && q.2.2.1 == sym) = true then 1 else 0 := by
  unfold cntC; rw [List.filter_append, List.length_append]
  congr 1
  rw [List.filter_cons, List.filter_nil]
  split <;> simp
set_option maxRecDepth 100000 in
set_option maxHeartbeats 8000000 in
theorem rcount12_any (s : ScT) (bs : List BpM) (pa ba : Option Addr) (pn pc bn bc : Nat) (part ac sym : Int) (w : World) (hs : PtsR w pa pn pc s.ps) (hb : BpsR w ba bn bc bs) (hmay : mayS s = true) (hwh : wholeS s (bs.map (·.1)) = true) (hfew : (s.ax * s.dn).toNat ≤ 26) :
    Calls Try.prog 32 #[.agg #[.int .i64 s.ax, .int .i64 s.dn, .slice pa pn pc, .int .i64 s.iv], .slice ba bn bc, .int .i64 part, .int .i64 ac, .int .i64 sym] w fun e w' => e = .returned (.int .i64 (cntV (tellC s (bs.map (·.1))) part ac sym)) ∧ Below w.heap.size w w' := by
  have hl := hs.ilen; have hbl := hb.ilen; obtain ⟨htop, hpts, hsum⟩ := mayS_parts hmay; have hpn4 : pn ≤ 4 := by omega
  have hU12 := fun W (h : Below w.heap.size w W) => runit12_any s pa pn pc W (hs.mono h) hpts hpn4; have hO12 := fun W (h : Below w.heap.size w W) => rorder12_any s pa pn pc W (hs.mono h) hmay; obtain ⟨a, ha⟩ : ∃ a : Nat, s.ax = a := ⟨s.ax.toNat, by omega⟩; obtain ⟨d, hd⟩ : ∃ d : Nat, s.dn = d := ⟨s.dn.toNat, by omega⟩; obtain ⟨I, hI⟩ : ∃ I : Nat, s.iv = I := ⟨s.iv.toNat, by omega⟩; have ha512 : 1 ≤ a ∧ a ≤ 512 := by omega
  have hd512 : 1 ≤ d ∧ d ≤ 512 := by omega
  obtain ⟨N, hN⟩ : ∃ N, a * d = N := ⟨_, rfl⟩; have hNs : (s.ax * s.dn).toNat = N := by rw [ha, hd, ← Int.natCast_mul, hN]; rfl
  have hN2 : N ≤ 262144 := by rw [← hN]; exact Nat.le_trans (Nat.mul_le_mul ha512.2 hd512.2) (by omega)
  obtain ⟨U, hU⟩ : ∃ U, unitN s.ps = U := ⟨_, rfl⟩; have hul := unitS_len (a := a) hpts (by rw [hl]; exact hpn4) 0; rw [unitS_many, hU] at hul; have hU0 : 0 < U := by rw [← hU]; exact unit_pos hpts (by omega)
  obtain ⟨UU, hUU⟩ : ∃ UU, unitsS a s.ps N = UU := ⟨_, rfl⟩
  have hsumU : U ≤ 10 := by
    have h1 := unitN_sum hpts; rw [hU] at h1
    omega
  have hpl := fun j (hj : j < N * U) => place_whole hwh ha hd hN hU ha512.1 hpts hj; have hUl : UU.length = N * U := by rw [← hUU, unitsS_len, hU]
  obtain ⟨NU, hNU⟩ : ∃ q, N * U = q := ⟨_, rfl⟩; have hN26 : N ≤ 26 := by omega
  have hNU2 : NU ≤ 260 := by rw [← hNU]; exact Nat.le_trans (Nat.mul_le_mul hN26 hsumU) (by decide)
  have hord : orderS s = placesI UU := by unfold orderS; rw [ha, Int.toNat_natCast, ← ha, hNs, hUU]
  have hpl2 := fun j (hj : j < N * U) => (show (unitS s.ax.toNat s.ps (j / U))[j % U]? = UU[j]? by rw [ha, Int.toNat_natCast, ← unitsS_get hU N hj, hUU]); rw [hNU] at hUl; rw [hUU] at hpl; have hSy := fun k W (hk : k < N * U) (h : Below w.heap.size w W) => rsymbols_any s bs pa ba pn pc bn bc k W (hs.mono h) (hb.mono h) hmay hwh (by rw [hNs, hU]; exact hk); have hSe : unitsS s.ax.toNat s.ps (s.ax * s.dn).toNat = UU := by rw [hNs, ha, Int.toNat_natCast, hUU]
  rw [hSe, ha, hd] at hSy; obtain ⟨TC, hTC⟩ : ∃ r, tellC s (bs.map (·.1)) = r := ⟨_, rfl⟩; rw [hTC]; have hTd : TC = tellS putC againC s (bs.map (·.1)) [] := hTC.symm; rw [hU, ha, hd] at hU12; rw [ha, hd] at hO12 ⊢; have b1 := Blk.new w 24 #[.int .i64 (a : Int), .int .i64 (d : Int), .slice pa pn pc, .int .i64 s.iv]; have hb1 := (Below.refl w.heap.size w).alloc (Nat.le_refl _) (.cells #[.int .i64 (a : Int), .int .i64 (d : Int), .slice pa pn pc, .int .i64 s.iv] 24); obtain ⟨W1, hW1⟩ : ∃ W1, w.alloc (.cells #[.int .i64 (a : Int), .int .i64 (d : Int), .slice pa pn pc, .int .i64 s.iv] 24) = W1 := ⟨_, rfl⟩; rw [hW1] at b1 hb1; have hcs : ∀ W, Blk W w.heap.size 24 #[.int .i64 (a : Int), .int .i64 (d : Int), .slice pa pn pc, .int .i64 s.iv] → W.cell? ⟨w.heap.size, 0, none⟩ = some (.int .i64 (a : Int)) ∧ W.cell? ⟨w.heap.size, 1, none⟩ = some (.int .i64 (d : Int)) ∧ W.cell? ⟨w.heap.size, 2, none⟩ = some (.slice pa pn pc) ∧ W.cell? ⟨w.heap.size, 3, none⟩ = some (.int .i64 s.iv) := fun W b => ⟨b.cell rfl, b.cell rfl, b.cell rfl, b.cell rfl⟩; obtain ⟨k0, k1, k2, k3⟩ := hcs W1 b1; clear hul hsum hI ha512 hd512 hsumU hU12; have hs' := Lib.hid hs; have hb' := Lib.hid hb; have hl' := Lib.hid hl; have hbl' := Lib.hid hbl; have hmay' := Lib.hid hmay; have hwh' := Lib.hid hwh; have htop' := Lib.hid htop; have hpts' := Lib.hid hpts; have hO12' := Lib.hid hO12; have ha' := Lib.hid ha; have hd' := Lib.hid hd; have hN' := Lib.hid hN; have hNs' := Lib.hid hNs; have hU' := Lib.hid hU; have hUU' := Lib.hid hUU; have hpl' := Lib.hid hpl; have hpl2' := Lib.hid hpl2; have hUl' := Lib.hid hUl; have hNU' := Lib.hid hNU; have hord' := Lib.hid hord; have b1' := Lib.hid b1; have hb1' := Lib.hid hb1; have hW1' := Lib.hid hW1; have hcs' := Lib.hid hcs; have hSy' := Lib.hid hSy; have hSe' := Lib.hid hSe; have hTC' := Lib.hid hTC; have hTd' := Lib.hid hTd; have hU0' := Lib.hid hU0; clear hs hb hl hbl hmay hwh htop hpts hO12 ha hd hN hNs hU hUU hpl hpl2 hUl hNU hord b1 hb1 hW1 hcs hSy hSe hTC hTd hU0
  go_enter Try.func32, Try.ntmps32
  go_upto_region 1 with fail
  rw [hW1'.out]
  go_wp2_with fail
  refine (hO12'.out W1 hb1'.out).mono ?_; rintro e w5 ⟨oa, on, oc, rfl, ho5, hb5⟩; have hbw5 := hb1'.out.trans (hb5.mono hb1'.out.size); have b5 := b1'.out.late hb5; have so5 := (Sl.of_own ho5).1; rw [hord'.out] at so5
  have hon : on = 2 * NU := by
    have h1 := so5.ilen; rw [placesI_len, hUl'.out] at h1
    omega
  subst hon; clear hb5 ho5 k0 k1 k2 k3; have hbw5' := Lib.hid hbw5; have b5' := Lib.hid b5; have so5' := Lib.hid so5; clear hbw5 b5 so5
  go_wp2
  go_loopw [12, 13, 14, 15, 16] (fun cv kv _ _ _ wr => ∃ (kk c : Nat) (t : TrC) (la : List Int), kk ≤ NU ∧ c ≤ kk * 70 ∧ kv = .int .i64 kk ∧ cv = .int .i64 c ∧ Hid (c = cntC t part ac sym) ∧ Hid (TlAt putC againC s (bs.map (·.1)) [] U kk (t, la)) ∧ Hid (LaAt s (bs.map (·.1)) UU U kk la) ∧ Hid (Below w5.heap.size w5 wr)) (fun _ kv _ _ _ _ => NU - (intOf kv).toNat)
  case atStart => exact ⟨0, 0, [], _, by omega, by omega, rfl, rfl, Lib.hid rfl, Lib.hid (.inl ⟨rfl, rfl⟩), Lib.hid LaAt.zero, Lib.hid (Below.refl _ _)⟩
  case round =>
    rename World => wr
    obtain ⟨kk, c, t, la, hkk, hck, rfl, rfl, hc, hat, hla, hbel⟩ := hrel; have hbwr := hbw5'.out.trans (hbel.out.mono hbw5'.out.size)
    by_cases hlt : kk < NU
    · obtain ⟨la2, hin, hlin⟩ : ∃ la2, TlIn putC againC s (bs.map (·.1)) [] U kk (t, la2) ∧ LaIn s (bs.map (·.1)) UU U kk la2 := by
        cases hT : (decide (kk % U = 0) && resS s.iv (kk / U)) with
        | false => exact ⟨la, hat.out.stay hU'.out hU0'.out rfl rfl hT, hla.out.stay rfl rfl hT hU0'.out⟩
        | true => exact ⟨_, hat.out.turn hU'.out hU0'.out rfl rfl hT, LaIn.reset rfl rfl hT⟩
      obtain ⟨y, p, B, x, hy, hp, hBy, hxy, hblk⟩ := hpl'.out kk (by rw [hNU'.out]; exact hlt); have hyu := (hpl2'.out kk (by rw [hNU'.out]; exact hlt)).trans hy; have HS := hSy'.out kk wr (by rw [hNU'.out]; exact hlt) hbwr; rw [hlin.code hU'.out hy hp] at HS; have hstn : codeB (blkB (bs.map (·.1)) y) (la2.getD y.1 0) = none → stepB putC (bs.map (·.1)) (t, la2) y = .error 7 := fun h => stepB_none h; have hstk : ∀ l t2, codeB (blkB (bs.map (·.1)) y) (la2.getD y.1 0) = some l → putL putC y.1 t l = .ok t2 → stepB putC (bs.map (·.1)) (t, la2) y = .ok (t2, la2.set y.1 ((blkB (bs.map (·.1)) y).getD 0 0)) := fun l e h1 h2 => stepB_ok h1 h2; have hter := fun e (he : stepB putC (bs.map (·.1)) (t, la2) y = .error e) => hin.err hNs'.out (by rw [hNU'.out]; exact hlt) hyu he; have htok := fun t2 (he : stepB putC (bs.map (·.1)) (t, la2) y = .ok t2) => hin.ok hyu he; have hla3 := hlin.next hy; have hbi := b5'.out.late hbel.out; obtain ⟨C, hC⟩ : ∃ C, codeB (blkB (bs.map (·.1)) y) (la2.getD y.1 0) = C := ⟨_, rfl⟩; rw [hC] at HS hstn hstk; obtain ⟨k0, k1, k2, k3⟩ := hcs'.out wr hbi; have hin' := Lib.hid hin; have hlin' := Lib.hid hlin; have hy' := Lib.hid hy; have hp' := Lib.hid hp; have hBy' := Lib.hid hBy; have hxy' := Lib.hid hxy; have hblk' := Lib.hid hblk; have hyu' := Lib.hid hyu; have HS' := Lib.hid HS; have hstn' := Lib.hid hstn; have hstk' := Lib.hid hstk; have hter' := Lib.hid hter; have htok' := Lib.hid htok; have hla3' := Lib.hid hla3; have hbi' := Lib.hid hbi; have hC' := Lib.hid hC; have hbwr' := Lib.hid hbwr; clear hin hlin hy hp hBy hxy hblk hyu HS hstn hstk hter htok hla3 hbi hC hbwr
      go_wp2_with fail
      refine HS'.out.mono ?_; rintro e w6 ⟨hres, hb6⟩; have hbw6 := hbwr'.out.trans (hb6.mono hbwr'.out.size); have hbe6 := hbel.out.trans (hb6.mono hbel.out.size); clear k0 k1 k2 k3 hb6
      rcases hres with ⟨hno, rfl⟩ | ⟨l, xa, xn, xc, hyes, rfl, hxn, hxo⟩
      · have hv : cntV TC part ac sym = -1 := by rw [hTd'.out, hter'.out 7 (hstn'.out hno)]; rfl
        clear hno; have hbw6' := Lib.hid hbw6; have hv' := Lib.hid hv; clear hbw6 hv
        go_wp2
        go_ret
        exact ⟨by rw [hv'.out]; rfl, hbw6'.out⟩
      · have hxo := own_mono hxo (Nat.zero_le _)
        have hCe := hC'.out.trans hyes
        obtain ⟨bm, hbm, hbm1⟩ : ∃ bm, bs[y.1]? = some bm ∧ bm.1 = B := by
          have h1 := hBy'.out; rw [List.getElem?_map] at h1
          cases h : bs[y.1]? with
          | none => rw [h] at h1; cases h1
          | some bm => rw [h] at h1; injection h1 with h1; exact ⟨bm, rfl, h1⟩
        have hx64 : x.length = 64 := (hb'.out.ok bm (List.mem_of_getElem? hbm)).len x (by rw [hbm1]; exact List.mem_of_getElem? hxy'.out); have hl70 : l.length ≤ 70 := codeB_len (by rw [hblk'.out]; exact hx64) hCe; have hat2 := htok'.out _ (hstk'.out l _ hyes (putL_C y.1 l t)); obtain ⟨ob, oo, hoa, hobb, fo⟩ := (so5'.out.mono hbe6).at (show 2 * kk < 2 * NU by omega); have q0 : w6.cell? ⟨ob, oo + 2 * kk, none⟩ = some (.int .i64 (y.1 : Int)) := fo (2 * kk) _ (by unfold ints; rw [List.getElem?_map, (placesI_get UU kk y hy'.out).1]; rfl); obtain ⟨y0, y1⟩ := y; simp only at q0 hat2; have hln : l.length = xn := hxn.symm; have hxn70 : xn ≤ 70 := by omega
        subst hoa; clear hyes hCe fo hbm hbm1 hx64 hxn hl70; have hxo' := Lib.hid hxo; have hat2' := Lib.hid hat2; have hln' := Lib.hid hln; have hbw6' := Lib.hid hbw6; have hbe6' := Lib.hid hbe6; have hobb' := Lib.hid hobb; clear hxo hat2 hln hbw6 hbe6 hobb
        go_wp2
        go_loopw [12, 16] (fun cv iv wl => ∃ (i c2 : Nat), i ≤ xn ∧ c2 ≤ c + i ∧ iv = .int .i64 i ∧ cv = .int .i64 c2 ∧ Hid (c2 = cntC (t ++ (l.take i).map fun x => (y0, x)) part ac sym) ∧ wl = w6) (fun _ iv _ => xn - (intOf iv).toNat)
        case atStart => exact ⟨0, c, by omega, by omega, rfl, rfl, Lib.hid (by rw [List.take_zero, List.map_nil, List.append_nil]; exact hc.out), rfl⟩
        case round =>
          rename World => wl
          obtain ⟨i, c2, hix, hc2, rfl, rfl, hcc, hwl⟩ := hrel; subst hwl
          by_cases hixl : i < xn
          · obtain ⟨x2, hxi⟩ : ∃ x2, l[i]? = some x2 := ⟨_, List.getElem?_eq_getElem (by rw [hln'.out]; exact hixl)⟩
            obtain ⟨xb, xo, hxae, hxbb, c0, c1, _, _⟩ := wcod_elem hxo'.out hxi; have hsn := @cntC_snoc (t ++ (l.take i).map fun x => (y0, x)) (y0, x2) part ac sym
            have htm : (t ++ (l.take i).map fun x => (y0, x)) ++ [(y0, x2)] = t ++ (l.take (i + 1)).map fun x => (y0, x) := by
              rw [List.take_add_one, hxi, Option.toList_some, List.map_append, List.append_assoc]; rfl
            rw [htm, ← hcc.out] at hsn; simp only at hsn; obtain ⟨xac, xsym, xv, xnb⟩ := x2; simp only at c0 c1 hsn; subst hxae; clear htm
            by_cases h1 : ((y0 : Int) == part) = true
            · by_cases h2 : (xac == ac) = true
              · by_cases h3 : (xsym == sym) = true
                · rw [h1, h2, h3] at hsn
                  have hxi' := Lib.hid hxi; have hsn' := Lib.hid hsn; have hxbb' := Lib.hid hxbb; clear hxi hsn hxbb
                  go_wp2
                  go_roundw
                  case rel => exact ⟨i + 1, c2 + 1, by omega, by omega, by go_num, by go_num, Lib.hid hsn'.out.symm, by first | rfl | trivial⟩
                  case measure => simp [intOf]; omega
                · have h3 : (xsym == sym) = false := by simpa using h3
                  rw [h1, h2, h3] at hsn; have hxi' := Lib.hid hxi; have hsn' := Lib.hid hsn; have hxbb' := Lib.hid hxbb; clear hxi hsn hxbb
                  go_wp2
                  go_roundw
                  case rel => exact ⟨i + 1, c2, by omega, by omega, by go_num, rfl, Lib.hid hsn'.out.symm, by first | rfl | trivial⟩
                  case measure => simp [intOf]; omega
              · have h2 : (xac == ac) = false := by simpa using h2
                rw [h1, h2] at hsn; have hxi' := Lib.hid hxi; have hsn' := Lib.hid hsn; have hxbb' := Lib.hid hxbb; clear hxi hsn hxbb
                go_wp2
                go_roundw
                case rel => exact ⟨i + 1, c2, by omega, by omega, by go_num, rfl, Lib.hid hsn'.out.symm, by first | rfl | trivial⟩
                case measure => simp [intOf]; omega
            · have h1 : ((y0 : Int) == part) = false := by simpa using h1
              rw [h1] at hsn; have hxi' := Lib.hid hxi; have hsn' := Lib.hid hsn; have hxbb' := Lib.hid hxbb; clear hxi hsn hxbb
              go_wp2
              go_roundw
              case rel => exact ⟨i + 1, c2, by omega, by omega, by go_num, rfl, Lib.hid hsn'.out.symm, by first | rfl | trivial⟩
              case measure => simp [intOf]; omega
          · obtain rfl : i = xn := by omega
            have hcc2 := hcc.out; rw [List.take_of_length_le (Nat.le_of_eq hln'.out)] at hcc2; clear hcc; have hcc2' := Lib.hid hcc2; clear hcc2
            go_wp2
            go_roundw
            case rel => exact ⟨kk + 1, c2, _, _, by omega, by omega, by go_num, rfl, hcc2', hat2', hla3', hbe6'⟩
            case measure => simp [intOf]; omega
    · have hkN : kk = NU := by omega
      have hfin : cntV TC part ac sym = c := by
        have h1 := hat.out; rw [hkN, ← hNU'.out] at h1; rw [hTd'.out, h1.fin hNs'.out hU'.out hU0'.out, hc.out]
        rfl
      have hbwr' := Lib.hid hbwr; have hfin' := Lib.hid hfin; clear hbwr hfin
      go_wp2
      go_ret
      exact ⟨by rw [hfin'.out]; rfl, hbwr'.out⟩
end Go.Proofs.Ytpjopeojeglogaa
