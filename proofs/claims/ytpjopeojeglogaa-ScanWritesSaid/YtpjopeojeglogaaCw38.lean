/- Chapter 12, the document's side: Order. -/
import Derived.Test.YtpjopeojeglogaaCw37
import Derived.Test.YtpjopeojeglogaaCw23
namespace Go.Proofs.Ytpjopeojeglogaa
open Go.RowKit Tt
set_option linter.unusedVariables false
set_option linter.unusedSimpArgs false

theorem placesI_one (X : List (Nat × Nat)) (e : Nat × Nat) : placesI (X ++ [e]) = placesI X ++ [(e.1 : Int), (e.2 : Int)] := by rw [placesI_app]; rfl
theorem at_make {a h v y x r c : Nat} (hx : x < a) (hc : c < h) : atU a h v (y * a + x) (r * h + c) = (y * v + r) * a * h + (x * h + c) := by
  unfold atU; rw [(quo_add hx).1, (quo_add hx).2, (quo_add hc).1, (quo_add hc).2]
/-- the places so far, in a row of the call's own -/
def OrdG (w0 w : World) (a3 : Option Addr) (m c3 : Nat) (X : List (Nat × Nat)) : Prop := w.ownsRow w0.heap.size 3 1 (.slice a3 m c3) m (ints .i64 (placesI X)) ∧ Below w0.heap.size w0 w
theorem ord_steps {a h v y x r c : Nat} (ha : a ≤ 512) (hh : h ≤ 4) (hv : v ≤ 4) (hy : y ≤ 512) (hx : x ≤ 512) (hr : r ≤ 4) (hc : c ≤ 4) :
    ∃ A1 A3 A4 A5 : Nat, A1 ≤ 2048 ∧ A3 ≤ 1050624 ∧ A4 ≤ 4202496 ∧ A5 ≤ 2048 ∧ IntKind.i64.wrap ((y : Int) * v) = A1 ∧ IntKind.i64.wrap (((A1 : Int) + r) * a) = A3 ∧ IntKind.i64.wrap ((A3 : Int) * h) = A4 ∧ IntKind.i64.wrap ((x : Int) * h) = A5 ∧ (y * v + r) * a * h + (x * h + c) = A4 + A5 + c := by
  have b1 : y * v ≤ 512 * 4 := Nat.mul_le_mul hy hv; have b3 : (y * v + r) * a ≤ 2052 * 512 := Nat.mul_le_mul (by omega) ha; have b4 : (y * v + r) * a * h ≤ 2052 * 512 * 4 := Nat.mul_le_mul b3 hh; have b5 : x * h ≤ 512 * 4 := Nat.mul_le_mul hx hh; refine ⟨y * v, (y * v + r) * a, (y * v + r) * a * h, x * h, by omega, by omega, by omega, by omega, ?_, ?_, ?_, ?_, by omega⟩
  · rw [← Int.natCast_mul]; exact wrapN (by omega)
  · rw [← Int.natCast_add, ← Int.natCast_mul]; exact wrapN (by omega)
  · rw [← Int.natCast_mul]; exact wrapN (by omega)
  · rw [← Int.natCast_mul]; exact wrapN (by omega)
set_option maxRecDepth 100000 in
set_option maxHeartbeats 1500000 in
theorem rorder12_any (s : ScT) (pa : Option Addr) (pn pc : Nat) (w : World) (hs : PtsR w pa pn pc s.ps) (hmay : mayS s = true) :
    Calls Try.prog 26 #[.agg #[.int .i64 s.ax, .int .i64 s.dn, .slice pa pn pc, .int .i64 s.iv]] w fun e w' => ∃ a2 n2 c2, e = .returned (.slice a2 n2 c2) ∧ w'.ownsRow w.heap.size 3 1 (.slice a2 n2 c2) n2 (ints .i64 (orderS s)) ∧ Below w.heap.size w w' := by
  obtain ⟨i0, hi, hz0, hz1, hz2⟩ := info_parts infoI; have hl := hs.ilen; obtain ⟨htop, hpts, hsum⟩ := mayS_parts hmay; unfold orderS; obtain ⟨ax, dn, iv, ps⟩ := s; simp only at hs hl hpts htop hsum ⊢; obtain ⟨a, rfl⟩ : ∃ a : Nat, ax = a := ⟨ax.toNat, by omega⟩; obtain ⟨d, rfl⟩ : ∃ a : Nat, dn = a := ⟨dn.toNat, by omega⟩; have ha : 1 ≤ a ∧ a ≤ 512 := by omega
  have hd : 1 ≤ d ∧ d ≤ 512 := by omega
  have hpn : pn ≤ 4 := by omega
  have eN2 : ((a : Int) * d).toNat = d * a := by rw [← Int.natCast_mul, Int.toNat_natCast, Nat.mul_comm]
  rw [eN2, Int.toNat_natCast]; have b1 := Blk.new w 24 #[.int .i64 a, .int .i64 d, .slice pa pn pc, .int .i64 iv]; have hb1 := (Below.refl w.heap.size w).alloc (Nat.le_refl _) (.cells #[.int .i64 a, .int .i64 d, .slice pa pn pc, .int .i64 iv] 24); obtain ⟨W1, hW1⟩ : ∃ W1, w.alloc (.cells #[.int .i64 a, .int .i64 d, .slice pa pn pc, .int .i64 iv] 24) = W1 := ⟨_, rfl⟩; rw [hW1] at b1 hb1; have hcs : ∀ W, Below W1.heap.size W1 W → W.cell? ⟨w.heap.size, 0, none⟩ = some (.int .i64 a) ∧ W.cell? ⟨w.heap.size, 1, none⟩ = some (.int .i64 d) ∧ W.cell? ⟨w.heap.size, 2, none⟩ = some (.slice pa pn pc) := fun W h => ⟨(b1.late h).cell rfl, (b1.late h).cell rfl, (b1.late h).cell rfl⟩; have hus := unitsS_snoc a ps; have huk := fun n k p => @unitS_snoc a n k ps p; clear hmay htop hsum eN2; have hs' := Lib.hid hs; have hl' := Lib.hid hl; have b1' := Lib.hid b1; have hb1' := Lib.hid hb1; have hW1' := Lib.hid hW1; have hcs' := Lib.hid hcs; have hpts' := Lib.hid hpts; have hus' := Lib.hid hus; have huk' := Lib.hid huk; clear hs hl b1 hb1 hW1 hcs hpts hus huk
  go_enter Try.func26, Try.ntmps26
  go_upto_region 1 with fail
  rw [hW1'.out]
  go_wp2
  go_loopw [3, 4, 5, 6, 7, 8, 9, 10] (fun ov yv _ _ _ _ _ _ wr => ∃ (y m : Nat) (a3 : Option Addr) (c3 : Nat), y ≤ d ∧ m ≤ 128 * (y * a) ∧ yv = .int .i64 y ∧ ov = .slice a3 m c3 ∧ Hid (OrdG W1 wr a3 m c3 (unitsS a ps (y * a)))) (fun _ yv _ _ _ _ _ _ _ => d - (intOf yv).toNat)
  case atStart => exact ⟨0, 0, none, 0, by omega, by omega, rfl, rfl, Lib.hid ⟨by rw [Nat.zero_mul]; exact own_nil _ _ _ _, Below.refl _ _⟩⟩
  case round =>
    rename World => wy
    obtain ⟨y, m, a3, c3, hy, hm, rfl, rfl, hG⟩ := hrel; obtain ⟨k0, k1, k2⟩ := hcs'.out wy hG.out.2
    by_cases hlt : y < d
    · have hya : y * a + a ≤ 262144 := by
        have : (y + 1) * a ≤ 512 * 512 := Nat.mul_le_mul (by omega) ha.2; rw [Nat.succ_mul] at this; omega
      go_wp2
      clear k0 k1 k2
      go_loopw [3, 5, 6, 7, 8, 9, 10] (fun ov xv _ _ _ _ _ wr => ∃ (x m : Nat) (a3 : Option Addr) (c3 : Nat), x ≤ a ∧ m ≤ 128 * (y * a + x) ∧ xv = .int .i64 x ∧ ov = .slice a3 m c3 ∧ Hid (OrdG W1 wr a3 m c3 (unitsS a ps (y * a + x)))) (fun _ xv _ _ _ _ _ _ => a - (intOf xv).toNat)
      case atStart => exact ⟨0, m, a3, c3, by omega, by omega, rfl, rfl, hG⟩
      case round =>
        rename World => wx
        obtain ⟨x, m, a3, c3, hx, hm, rfl, rfl, hG⟩ := hrel; obtain ⟨k0, k1, k2⟩ := hcs'.out wx hG.out.2
        by_cases hlt2 : x < a
        · obtain ⟨n, hn⟩ : ∃ n, y * a + x = n := ⟨_, rfl⟩
          have hn2 : n ≤ 262144 := by omega
          have hG0 := hG.out; rw [hn] at hG0 hm
          have hG1 : OrdG W1 wx a3 m c3 (unitsS a ps n ++ unitS a (ps.take 0) n) := by
            have e : unitS a (ps.take 0) n = [] := by simp [unitS]
            rw [e, List.append_nil]; exact hG0
          have hn' := Lib.hid hn; clear hG0 hn hya; have hG1' := Lib.hid hG1; clear hG1
          go_wp2
          clear k0 k1 k2
          go_loopw [3, 6, 7, 8, 9, 10] (fun ov kv _ _ _ _ wr => ∃ (k m : Nat) (a3 : Option Addr) (c3 : Nat), k ≤ pn ∧ m ≤ 128 * n + 32 * k ∧ kv = .int .i64 k ∧ ov = .slice a3 m c3 ∧ Hid (OrdG W1 wr a3 m c3 (unitsS a ps n ++ unitS a (ps.take k) n))) (fun _ kv _ _ _ _ _ => pn - (intOf kv).toNat)
          case atStart => exact ⟨0, m, a3, c3, by omega, by omega, rfl, rfl, hG1'⟩
          case round =>
            rename World => wk
            obtain ⟨k, m, a3, c3, hk, hm, rfl, rfl, hG⟩ := hrel; obtain ⟨k0, k1, k2⟩ := hcs'.out wk hG.out.2
            by_cases hlt3 : k < pn
            · obtain ⟨p, hp⟩ : ∃ p, ps[k]? = some p := ⟨_, List.getElem?_eq_getElem (by rw [hl'.out]; exact hlt3)⟩
              obtain ⟨g, o, rfl, hg, f⟩ := (hs'.out.mono (hb1'.out.trans (hG.out.2.mono hb1'.out.size))).elem hp; have hmp := mayPt_bd (hpts'.out k p hp); obtain ⟨h, hh⟩ : ∃ h : Nat, p.1 = h := ⟨p.1.toNat, by omega⟩; obtain ⟨v, hv⟩ : ∃ v : Nat, p.2.1 = v := ⟨p.2.1.toNat, by omega⟩; have f0 : wk.cell? ⟨g, o + k * 36, none⟩ = some (.int .i64 h) := by have := f 0 (.int .i64 p.1) rfl; rw [hh] at this; exact this
              have f1 : wk.cell? ⟨g, o + k * 36 + 1, none⟩ = some (.int .i64 v) := by have := f 1 (.int .i64 p.2.1) rfl; rw [hv] at this; exact this
              have hh4 : 1 ≤ h ∧ h ≤ 4 := by omega
              have hv4 : 1 ≤ v ∧ v ≤ 4 := by omega
              have hukp := huk'.out n k p hp; have hpl : ∀ j, plU a n k p j = (k, atU a h v n j) := fun j => by unfold plU; rw [hh, hv, Int.toNat_natCast, Int.toNat_natCast]
              have hup : unitP a n k p = (List.range (v * h)).map (plU a n k p) := by unfold unitP; rw [hh, hv, Int.toNat_natCast, Int.toNat_natCast, Nat.mul_comm]
              have hvh : v * h ≤ 16 := Nat.le_trans (Nat.mul_le_mul hv4.2 hh4.2) (by decide); rw [hup] at hukp
              have hG1 : ∀ q, OrdG W1 (wk.drewN q) a3 m c3 (unitsS a ps n ++ unitS a (ps.take k) n ++ (List.range (0 * h)).map (plU a n k p)) := fun q => by
                rw [Nat.zero_mul, List.range_zero, List.map_nil, List.append_nil]; exact ⟨own_later hG.out.1 (Qt.below ⟨q, rfl⟩ _), below_dN hG.out.2⟩
              clear f hmp; have hp' := Lib.hid hp; have hh' := Lib.hid hh; have hv' := Lib.hid hv; have hukp' := Lib.hid hukp; have hpl' := Lib.hid hpl; have hup' := Lib.hid hup; have hvh' := Lib.hid hvh; have hG1' := Lib.hid hG1; clear hp hh hv hukp hpl hup hvh hG1
              go_wp2
              go_quiet (fail)
              go_wp2
              clear k0 k1 k2 f0 f1
              go_loopw [3, 9, 10] (fun ov rv _ wr => ∃ (r m : Nat) (a3 : Option Addr) (c3 : Nat), r ≤ v ∧ m ≤ 128 * n + 32 * k + 2 * (r * h) ∧ rv = .int .i64 r ∧ ov = .slice a3 m c3 ∧ Hid (OrdG W1 wr a3 m c3 (unitsS a ps n ++ unitS a (ps.take k) n ++ (List.range (r * h)).map (plU a n k p)))) (fun _ rv _ _ => v - (intOf rv).toNat)
              case atStart => exact ⟨0, m, a3, c3, by omega, by omega, rfl, rfl, Lib.hid (hG1'.out _)⟩
              case round =>
                rename World => wrr
                obtain ⟨r, m, a3, c3, hr, hm, rfl, rfl, hG⟩ := hrel
                by_cases hlt4 : r < v
                · obtain ⟨q, hq⟩ : ∃ q, r * h = q := ⟨_, rfl⟩
                  rw [hq] at hm
                  have hqh : q + h ≤ 16 := by
                    have h1 : (r + 1) * h ≤ v * h := Nat.mul_le_mul_right _ hlt4; have := hvh'.out; rw [Nat.succ_mul] at h1; omega
                  have hG1 : OrdG W1 wrr a3 m c3 (unitsS a ps n ++ unitS a (ps.take k) n ++ (List.range (q + 0)).map (plU a n k p)) := by rw [Nat.add_zero, ← hq]; exact hG.out
                  have hq' := Lib.hid hq; have hG1' := Lib.hid hG1; clear hq hG1
                  go_wp2
                  go_loopw [3, 10] (fun ov cv wr => ∃ (c m : Nat) (a3 : Option Addr) (c3 : Nat), c ≤ h ∧ m ≤ 128 * n + 32 * k + 2 * (q + c) ∧ cv = .int .i64 c ∧ ov = .slice a3 m c3 ∧ Hid (OrdG W1 wr a3 m c3 (unitsS a ps n ++ unitS a (ps.take k) n ++ (List.range (q + c)).map (plU a n k p)))) (fun _ cv _ => h - (intOf cv).toNat)
                  case atStart => exact ⟨0, m, a3, c3, by omega, by omega, rfl, rfl, hG1'⟩
                  case round =>
                    rename World => wc
                    obtain ⟨c, m, a3, c3, hc, hm, rfl, rfl, hG⟩ := hrel; obtain ⟨k0, k1, k2⟩ := hcs'.out wc hG.out.2
                    by_cases hlt5 : c < h
                    · obtain ⟨A1, A3, A4, A5, B1, B3, B4, B5, e1, e3, e4, e5, e6⟩ := ord_steps (a := a) (h := h) (v := v) (y := y) (x := x) (r := r) (c := c) ha.2 hh4.2 hv4.2 (by omega) (by omega) (by omega) (by omega)
                      have hat := at_make (a := a) (h := h) (v := v) (y := y) (x := x) (r := r) (c := c) hlt2 hlt5; rw [hn'.out, hq'.out, e6] at hat
                      have hX : placesI (unitsS a ps n ++ unitS a (ps.take k) n ++ (List.range (q + (c + 1))).map (plU a n k p)) = placesI (unitsS a ps n ++ unitS a (ps.take k) n ++ (List.range (q + c)).map (plU a n k p)) ++ [(k : Int), ((A4 + A5 + c : Nat) : Int)] := by
                        rw [← Nat.add_assoc, range_snoc, ← List.append_assoc, placesI_one, hpl'.out, hat]
                      have hal := (Below.refl wc.heap.size wc).alloc (Nat.le_refl _) (.cells #[.int .i64 k, .int .i64 ((A4 : Int) + A5 + c)] 3); have s5 := Sl.new wc 3 1 2 #[.int .i64 k, .int .i64 ((A4 : Int) + A5 + c)] (0, 0) (by decide) rfl; have hO := own_later hG.out.1 hal; have hB := hG.out.2.trans (hal.mono hG.out.2.size); have hBs := hB.size; clear e6 hat hal; have hX' := Lib.hid hX; have s5' := Lib.hid s5; have hO' := Lib.hid hO; have hB' := Lib.hid hB; clear hX s5 hO hB
                      go_wp2_with (at_builtin; go_loud (refine wpList_app rfl _ _ 35 rfl W1.heap.size 3 i0 _ 1 8 Try.underlying35 hi hz0 (by assumption) hz2 rfl (by decide) _ m _ rfl hO'.out (some ⟨wc.heap.size, 0, none⟩) 2 2 _ rfl s5'.out (by simp [Value.oneCell']) (by omega) (by decide) hBs ?_; intro a7 c7 w7 ho7 hb7 hg7; have Ho7 := Lib.hid ho7; have Hb7 := Lib.hid (hB'.out.trans hb7); clear ho7 hb7 hg7))
                      go_roundw
                      case rel =>
                        have e : ((A4 + A5 + c : Nat) : Int) = (A4 : Int) + A5 + c := by omega
                        exact ⟨c + 1, m + 2, a7, c7, by omega, by omega, by go_num, rfl, Lib.hid ⟨by rw [hX'.out, ints_append]; simp only [ints, List.map_cons, List.map_nil, e]; exact Ho7.out, Hb7.out⟩⟩
                      case measure => simp [intOf]; omega
                    · have hch : c = h := by omega
                      have hG2 : OrdG W1 wc a3 m c3 (unitsS a ps n ++ unitS a (ps.take k) n ++ (List.range ((r + 1) * h)).map (plU a n k p)) := by
                        have h1 := hG.out; rw [hch, ← hq'.out] at h1; rw [Nat.succ_mul]; exact h1
                      have hm2 : m ≤ 128 * n + 32 * k + 2 * ((r + 1) * h) := by rw [show (r + 1) * h = r * h + h from Nat.succ_mul r h, hq'.out]; omega
                      have hm2' := Lib.hid hm2; clear hm2; have hG2' := Lib.hid hG2; clear hG2
                      go_wp2
                      go_roundw
                      case rel => exact ⟨r + 1, m, a3, c3, by omega, hm2'.out, by go_num, rfl, hG2'⟩
                      case measure => simp [intOf]; omega
                · have hrv : r = v := by omega
                  have hG2 : OrdG W1 wrr a3 m c3 (unitsS a ps n ++ unitS a (ps.take (k + 1)) n) := by
                    rw [hukp'.out, ← List.append_assoc, ← hrv]; exact hG.out
                  have hm2 : m ≤ 128 * n + 32 * (k + 1) := by
                    have := hvh'.out; rw [hrv] at hm; omega
                  clear hm; have hG2' := Lib.hid hG2; clear hG2
                  go_wp2
                  go_roundw
                  case rel => exact ⟨k + 1, m, a3, c3, by omega, by omega, by go_num, rfl, hG2'⟩
                  case measure => simp [intOf]; omega
            · have hkn : k = pn := by omega
              have hG2 : OrdG W1 wk a3 m c3 (unitsS a ps (y * a + (x + 1))) := by
                have h1 := hG.out; rw [List.take_of_length_le (by rw [hl'.out]; omega), ← hus'.out, ← hn'.out] at h1; exact h1
              have hm2 : m ≤ 128 * (y * a + (x + 1)) := by have := hn'.out; omega
              have hm2' := Lib.hid hm2; clear hm2; have hG2' := Lib.hid hG2; clear hG2
              go_wp2
              go_roundw
              case rel => exact ⟨x + 1, m, a3, c3, by omega, hm2'.out, by go_num, rfl, hG2'⟩
              case measure => simp [intOf]; omega
        · have hxa : x = a := by omega
          have hG2 : OrdG W1 wx a3 m c3 (unitsS a ps ((y + 1) * a)) := by
            have h1 := hG.out; rw [hxa] at h1; rw [Nat.succ_mul]; exact h1
          have hm2 : m ≤ 128 * ((y + 1) * a) := by rw [show (y + 1) * a = y * a + a from Nat.succ_mul y a]; omega
          have hm2' := Lib.hid hm2; clear hm2; have hG2' := Lib.hid hG2; clear hG2
          go_wp2
          go_roundw
          case rel => exact ⟨y + 1, m, a3, c3, by omega, hm2'.out, by go_num, rfl, hG2'⟩
          case measure => simp [intOf]; omega
    · have hyd : y = d := by omega
      have hG2 := hG.out; rw [hyd] at hG2; clear hm; have hG2' := Lib.hid hG2; clear hG2
      go_wp2
      go_ret
      exact ⟨a3, m, c3, rfl, own_mono hG2'.out.1 hb1'.out.size, hb1'.out.trans (hG2'.out.2.mono hb1'.out.size)⟩
end Go.Proofs.Ytpjopeojeglogaa
