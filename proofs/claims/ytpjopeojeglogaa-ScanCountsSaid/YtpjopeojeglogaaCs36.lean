/- Chapter 12, the document's side: Order. | Chapter 12, the document's side: Symbols. -/
import Derived.Test.YtpjopeojeglogaaCs35
import Derived.Test.YtpjopeojeglogaaCs23
import Derived.Test.YtpjopeojeglogaaCs29
namespace Go.Proofs.Ytpjopeojeglogaa
open Go.RowKit Tt
set_option linter.unusedVariables false
set_option linter.unusedSimpArgs false

theorem placesI_one (X : List (Nat × Nat)) (e : Nat × Nat) : placesI (X ++ [e]) = placesI X ++ [(e.1 : Int), (e.2 : Int)] := by rw [placesI_app]; rfl
theorem at_make {a h v y x r c : Nat} (hx : x < a) (hc : c < h) : atU a h v (y * a + x) (r * h + c) = (y * v + r) * a * h + (x * h + c) := by
  unfold atU; rw [(quo_add hx).1, (quo_add hx).2, (quo_add hc).1, (quo_add hc).2]
/-- the places so far, in a row of the call's own -/
def OrdG (w0 w : World) (a3 : Option Addr) (m c3 : Nat) (X : List (Nat × Nat)) : Prop := w.ownsRow w0.heap.size 3 1 (.slice a3 m c3) m (ints .i64 (placesI X)) ∧ Below w0.heap.size w0 w
theorem ord_steps {a h v y x r c : Nat} (ha : a ≤ 512) (hh : h ≤ 4) (hv : v ≤ 4) (hy : y ≤ 512) (hx : x ≤ 512) (hr : r ≤ 4) (hc : c ≤ 4) :
    ∃ A1 A3 A4 A5 : Nat, A1 ≤ 2048 ∧ A3 ≤ 1050624 ∧ A4 ≤ 4202496 ∧ A5 ≤ 2048 ∧ IntKind.i64.wrap ((y : Int) * v) = A1 ∧ IntKind.i64.wrap (((A1 : Int) + r) * a) = A3 ∧ IntKind.i64.wrap ((A3 : Int) * h) = A4 ∧ IntKind.i64.wrap ((x : Int) * h) = A5 ∧ (y * v + r) * a * h + (x * h + c) = A4 + A5 + c := by
  have b1 : y * v ≤ 512 * 4 := Nat.mul_le_mul hy hv; have b3 : (y * v + r) * a ≤ 2052 * 512 := Nat.mul_le_mul (by omega) ha; have b4 : (y * v + r) * a * h ≤ 2052 * 512 * 4 := Nat.mul_le_mul b3 hh; have b5 : x * h ≤ 512 * 4 := Nat.mul_le_mul hx hh; refine ⟨y * v, (y * v + r) * a, (y * v + r) * a * h, x * h, by omega, by omega, by omega, by omega, ?_, ?_, ?_, ?_, by omega⟩
  · rw [← Int.natCast_mul]; exact wrapN (by omega)
  · rw [← Int.natCast_add, ← Int.natCast_mul]; exact wrapN (by omega)
  · rw [← Int.natCast_mul]; exact wrapN (by omega)
  · rw [← Int.natCast_mul]; exact wrapN (by omega)
set_option maxRecDepth 100000 in
set_option maxHeartbeats 1500000 in
theorem rorder12_any (s : ScT) (pa : Option Addr) (pn pc : Nat) (w : World) (hs : PtsR w pa pn pc s.ps) (hmay : mayS s = true) :
    Calls Try.prog 26 #[.agg #[.int .i64 s.ax, .int .i64 s.dn, .slice pa pn pc, .int .i64 s.iv]] w fun e w' => ∃ a2 n2 c2, e = .returned (.slice a2 n2 c2) ∧ w'.ownsRow w.heap.size 3 1 (.slice a2 n2 c2) n2 (ints .i64 (orderS s)) ∧ Below w.heap.size w w' := by
  obtain ⟨i0, hi, hz0, hz1, hz2⟩ := info_parts infoI; have hl := hs.ilen; obtain ⟨htop, hpts, hsum⟩ := mayS_parts hmay; unfold orderS; obtain ⟨ax, dn, iv, ps⟩ := s; simp only at hs hl hpts htop hsum ⊢; obtain ⟨a, rfl⟩ : ∃ a : Nat, ax = a := ⟨ax.toNat, by omega⟩; obtain ⟨d, rfl⟩ : ∃ a : Nat, dn = a := ⟨dn.toNat, by omega⟩; have ha : 1 ≤ a ∧ a ≤ 512 := by omega
  have hd : 1 ≤ d ∧ d ≤ 512 := by omega
  have hpn : pn ≤ 4 := by omega
  have eN2 : ((a : Int) * d).toNat = d * a := by rw [← Int.natCast_mul, Int.toNat_natCast, Nat.mul_comm]
  rw [eN2, Int.toNat_natCast]; have b1 := Blk.new w 24 #[.int .i64 a, .int .i64 d, .slice pa pn pc, .int .i64 iv]; have hb1 := (Below.refl w.heap.size w).alloc (Nat.le_refl _) (.cells #[.int .i64 a, .int .i64 d, .slice pa pn pc, .int .i64 iv] 24); obtain ⟨W1, hW1⟩ : ∃ W1, w.alloc (.cells #[.int .i64 a, .int .i64 d, .slice pa pn pc, .int .i64 iv] 24) = W1 := ⟨_, rfl⟩; rw [hW1] at b1 hb1; have hcs : ∀ W, Below W1.heap.size W1 W → W.cell? ⟨w.heap.size, 0, none⟩ = some (.int .i64 a) ∧ W.cell? ⟨w.heap.size, 1, none⟩ = some (.int .i64 d) ∧ W.cell? ⟨w.heap.size, 2, none⟩ = some (.slice pa pn pc) := fun W h => ⟨(b1.late h).cell rfl, (b1.late h).cell rfl, (b1.late h).cell rfl⟩; have hus := unitsS_snoc a ps; have huk := fun n k p => @unitS_snoc a n k ps p; clear hmay htop hsum eN2; have hs' := Lib.hid hs; have hl' := Lib.hid hl; have b1' := Lib.hid b1; have hb1' := Lib.hid hb1; have hW1' := Lib.hid hW1; have hcs' := Lib.hid hcs; have hpts' := Lib.hid hpts; have hus' := Lib.hid hus; have huk' := Lib.hid huk; clear hs hl b1 hb1 hW1 hcs hpts hus huk
  go_enter Try.func26, Try.ntmps26
  go_upto_region 1 with fail
  rw [hW1'.out]
  go_wp2
  go_loopw [3, 4, 5, 6, 7, 8, 9, 10] (fun ov yv _ _ _ _ _ _ wr => ∃ (y m : Nat) (a3 : Option Addr) (c3 : Nat), y ≤ d ∧ m ≤ 128 * (y * a) ∧ yv = .int .i64 y ∧ ov = .slice a3 m c3 ∧ Hid (OrdG W1 wr a3 m c3 (unitsS a ps (y * a)))) (fun _ yv _ _ _ _ _ _ _ => d - (intOf yv).toNat)
  case atStart => exact ⟨0, 0, none, 0, by omega, by omega, rfl, rfl, Lib.hid ⟨by rw [Nat.zero_mul]; exact own_nil _ _ _ _, Below.refl _ _⟩⟩
  case round =>
    rename World => wy
    obtain ⟨y, m, a3, c3, hy, hm, rfl, rfl, hG⟩ := hrel; obtain ⟨k0, k1, k2⟩ := hcs'.out wy hG.out.2
    by_cases hlt : y < d
    · have hya : y * a + a ≤ 262144 := by
        have : (y + 1) * a ≤ 512 * 512 := Nat.mul_le_mul (by omega) ha.2; rw [Nat.succ_mul] at this; omega
      go_wp2
      clear k0 k1 k2
      go_loopw [3, 5, 6, 7, 8, 9, 10] (fun ov xv _ _ _ _ _ wr => ∃ (x m : Nat) (a3 : Option Addr) (c3 : Nat), x ≤ a ∧ m ≤ 128 * (y * a + x) ∧ xv = .int .i64 x ∧ ov = .slice a3 m c3 ∧ Hid (OrdG W1 wr a3 m c3 (unitsS a ps (y * a + x)))) (fun _ xv _ _ _ _ _ _ => a - (intOf xv).toNat)
      case atStart => exact ⟨0, m, a3, c3, by omega, by omega, rfl, rfl, hG⟩
      case round =>
        rename World => wx
        obtain ⟨x, m, a3, c3, hx, hm, rfl, rfl, hG⟩ := hrel; obtain ⟨k0, k1, k2⟩ := hcs'.out wx hG.out.2
        by_cases hlt2 : x < a
        · obtain ⟨n, hn⟩ : ∃ n, y * a + x = n := ⟨_, rfl⟩
          have hn2 : n ≤ 262144 := by omega
          have hG0 := hG.out; rw [hn] at hG0 hm
          have hG1 : OrdG W1 wx a3 m c3 (unitsS a ps n ++ unitS a (ps.take 0) n) := by
            have e : unitS a (ps.take 0) n = [] := by simp [unitS]
            rw [e, List.append_nil]; exact hG0
          have hn' := Lib.hid hn; clear hG0 hn hya; have hG1' := Lib.hid hG1; clear hG1
          go_wp2
          clear k0 k1 k2
          go_loopw [3, 6, 7, 8, 9, 10] (fun ov kv _ _ _ _ wr => ∃ (k m : Nat) (a3 : Option Addr) (c3 : Nat), k ≤ pn ∧ m ≤ 128 * n + 32 * k ∧ kv = .int .i64 k ∧ ov = .slice a3 m c3 ∧ Hid (OrdG W1 wr a3 m c3 (unitsS a ps n ++ unitS a (ps.take k) n))) (fun _ kv _ _ _ _ _ => pn - (intOf kv).toNat)
          case atStart => exact ⟨0, m, a3, c3, by omega, by omega, rfl, rfl, hG1'⟩
          case round =>
            rename World => wk
            obtain ⟨k, m, a3, c3, hk, hm, rfl, rfl, hG⟩ := hrel; obtain ⟨k0, k1, k2⟩ := hcs'.out wk hG.out.2
            by_cases hlt3 : k < pn
            · obtain ⟨p, hp⟩ : ∃ p, ps[k]? = some p := ⟨_, List.getElem?_eq_getElem (by rw [hl'.out]; exact hlt3)⟩
              obtain ⟨g, o, rfl, hg, f⟩ := (hs'.out.mono (hb1'.out.trans (hG.out.2.mono hb1'.out.size))).elem hp; have hmp := mayPt_bd (hpts'.out k p hp); obtain ⟨h, hh⟩ : ∃ h : Nat, p.1 = h := ⟨p.1.toNat, by omega⟩; obtain ⟨v, hv⟩ : ∃ v : Nat, p.2.1 = v := ⟨p.2.1.toNat, by omega⟩; have f0 : wk.cell? ⟨g, o + k * 36, none⟩ = some (.int .i64 h) := by have := f 0 (.int .i64 p.1) rfl; rw [hh] at this; exact this
              have f1 : wk.cell? ⟨g, o + k * 36 + 1, none⟩ = some (.int .i64 v) := by have := f 1 (.int .i64 p.2.1) rfl; rw [hv] at this; exact this
              have hh4 : 1 ≤ h ∧ h ≤ 4 := by omega
              have hv4 : 1 ≤ v ∧ v ≤ 4 := by omega
              have hukp := huk'.out n k p hp; have hpl : ∀ j, plU a n k p j = (k, atU a h v n j) := fun j => by unfold plU; rw [hh, hv, Int.toNat_natCast, Int.toNat_natCast]
              have hup : unitP a n k p = (List.range (v * h)).map (plU a n k p) := by unfold unitP; rw [hh, hv, Int.toNat_natCast, Int.toNat_natCast, Nat.mul_comm]
              have hvh : v * h ≤ 16 := Nat.le_trans (Nat.mul_le_mul hv4.2 hh4.2) (by decide); rw [hup] at hukp
              have hG1 : ∀ q, OrdG W1 (wk.drewN q) a3 m c3 (unitsS a ps n ++ unitS a (ps.take k) n ++ (List.range (0 * h)).map (plU a n k p)) := fun q => by
                rw [Nat.zero_mul, List.range_zero, List.map_nil, List.append_nil]; exact ⟨own_later hG.out.1 (Qt.below ⟨q, rfl⟩ _), below_dN hG.out.2⟩
              clear f hmp; have hp' := Lib.hid hp; have hh' := Lib.hid hh; have hv' := Lib.hid hv; have hukp' := Lib.hid hukp; have hpl' := Lib.hid hpl; have hup' := Lib.hid hup; have hvh' := Lib.hid hvh; have hG1' := Lib.hid hG1; clear hp hh hv hukp hpl hup hvh hG1
              go_wp2
              go_quiet (fail)
              go_wp2
              clear k0 k1 k2 f0 f1
              go_loopw [3, 9, 10] (fun ov rv _ wr => ∃ (r m : Nat) (a3 : Option Addr) (c3 : Nat), r ≤ v ∧ m ≤ 128 * n + 32 * k + 2 * (r * h) ∧ rv = .int .i64 r ∧ ov = .slice a3 m c3 ∧ Hid (OrdG W1 wr a3 m c3 (unitsS a ps n ++ unitS a (ps.take k) n ++ (List.range (r * h)).map (plU a n k p)))) (fun _ rv _ _ => v - (intOf rv).toNat)
              case atStart => exact ⟨0, m, a3, c3, by omega, by omega, rfl, rfl, Lib.hid (hG1'.out _)⟩
              case round =>
                rename World => wrr
                obtain ⟨r, m, a3, c3, hr, hm, rfl, rfl, hG⟩ := hrel
                by_cases hlt4 : r < v
                · obtain ⟨q, hq⟩ : ∃ q, r * h = q := ⟨_, rfl⟩
                  rw [hq] at hm
                  have hqh : q + h ≤ 16 := by
                    have h1 : (r + 1) * h ≤ v * h := Nat.mul_le_mul_right _ hlt4; have := hvh'.out; rw [Nat.succ_mul] at h1; omega
                  have hG1 : OrdG W1 wrr a3 m c3 (unitsS a ps n ++ unitS a (ps.take k) n ++ (List.range (q + 0)).map (plU a n k p)) := by rw [Nat.add_zero, ← hq]; exact hG.out
                  have hq' := Lib.hid hq; have hG1' := Lib.hid hG1; clear hq hG1
                  go_wp2
                  go_loopw [3, 10] (fun ov cv wr => ∃ (c m : Nat) (a3 : Option Addr) (c3 : Nat), c ≤ h ∧ m ≤ 128 * n + 32 * k + 2 * (q + c) ∧ cv = .int .i64 c ∧ ov = .slice a3 m c3 ∧ Hid (OrdG W1 wr a3 m c3 (unitsS a ps n ++ unitS a (ps.take k) n ++ (List.range (q + c)).map (plU a n k p)))) (fun _ cv _ => h - (intOf cv).toNat)
                  case atStart => exact ⟨0, m, a3, c3, by omega, by omega, rfl, rfl, hG1'⟩
                  case round =>
                    rename World => wc
                    obtain ⟨c, m, a3, c3, hc, hm, rfl, rfl, hG⟩ := hrel; obtain ⟨k0, k1, k2⟩ := hcs'.out wc hG.out.2
                    by_cases hlt5 : c < h
                    · obtain ⟨A1, A3, A4, A5, B1, B3, B4, B5, e1, e3, e4, e5, e6⟩ := ord_steps (a := a) (h := h) (v := v) (y := y) (x := x) (r := r) (c := c) ha.2 hh4.2 hv4.2 (by omega) (by omega) (by omega) (by omega)
                      have hat := at_make (a := a) (h := h) (v := v) (y := y) (x := x) (r := r) (c := c) hlt2 hlt5; rw [hn'.out, hq'.out, e6] at hat
                      have hX : placesI (unitsS a ps n ++ unitS a (ps.take k) n ++ (List.range (q + (c + 1))).map (plU a n k p)) = placesI (unitsS a ps n ++ unitS a (ps.take k) n ++ (List.range (q + c)).map (plU a n k p)) ++ [(k : Int), ((A4 + A5 + c : Nat) : Int)] := by
                        rw [← Nat.add_assoc, range_snoc, ← List.append_assoc, placesI_one, hpl'.out, hat]
                      have hal := (Below.refl wc.heap.size wc).alloc (Nat.le_refl _) (.cells #[.int .i64 k, .int .i64 ((A4 : Int) + A5 + c)] 3); have s5 := Sl.new wc 3 1 2 #[.int .i64 k, .int .i64 ((A4 : Int) + A5 + c)] (0, 0) (by decide) rfl; have hO := own_later hG.out.1 hal; have hB := hG.out.2.trans (hal.mono hG.out.2.size); have hBs := hB.size; clear e6 hat hal; have hX' := Lib.hid hX; have s5' := Lib.hid s5; have hO' := Lib.hid hO; have hB' := Lib.hid hB; clear hX s5 hO hB
                      go_wp2_with (at_builtin; go_loud (refine wpList_app rfl _ _ 35 rfl W1.heap.size 3 i0 _ 1 8 Try.underlying35 hi hz0 (by assumption) hz2 rfl (by decide) _ m _ rfl hO'.out (some ⟨wc.heap.size, 0, none⟩) 2 2 _ rfl s5'.out (by simp [Value.oneCell']) (by omega) (by decide) hBs ?_; intro a7 c7 w7 ho7 hb7 hg7; have Ho7 := Lib.hid ho7; have Hb7 := Lib.hid (hB'.out.trans hb7); clear ho7 hb7 hg7))
                      go_roundw
                      case rel =>
                        have e : ((A4 + A5 + c : Nat) : Int) = (A4 : Int) + A5 + c := by omega
                        exact ⟨c + 1, m + 2, a7, c7, by omega, by omega, by go_num, rfl, Lib.hid ⟨by rw [hX'.out, ints_append]; simp only [ints, List.map_cons, List.map_nil, e]; exact Ho7.out, Hb7.out⟩⟩
                      case measure => simp [intOf]; omega
                    · have hch : c = h := by omega
                      have hG2 : OrdG W1 wc a3 m c3 (unitsS a ps n ++ unitS a (ps.take k) n ++ (List.range ((r + 1) * h)).map (plU a n k p)) := by
                        have h1 := hG.out; rw [hch, ← hq'.out] at h1; rw [Nat.succ_mul]; exact h1
                      have hm2 : m ≤ 128 * n + 32 * k + 2 * ((r + 1) * h) := by rw [show (r + 1) * h = r * h + h from Nat.succ_mul r h, hq'.out]; omega
                      have hm2' := Lib.hid hm2; clear hm2; have hG2' := Lib.hid hG2; clear hG2
                      go_wp2
                      go_roundw
                      case rel => exact ⟨r + 1, m, a3, c3, by omega, hm2'.out, by go_num, rfl, hG2'⟩
                      case measure => simp [intOf]; omega
                · have hrv : r = v := by omega
                  have hG2 : OrdG W1 wrr a3 m c3 (unitsS a ps n ++ unitS a (ps.take (k + 1)) n) := by
                    rw [hukp'.out, ← List.append_assoc, ← hrv]; exact hG.out
                  have hm2 : m ≤ 128 * n + 32 * (k + 1) := by
                    have := hvh'.out; rw [hrv] at hm; omega
                  clear hm; have hG2' := Lib.hid hG2; clear hG2
                  go_wp2
                  go_roundw
                  case rel => exact ⟨k + 1, m, a3, c3, by omega, by omega, by go_num, rfl, hG2'⟩
                  case measure => simp [intOf]; omega
            · have hkn : k = pn := by omega
              have hG2 : OrdG W1 wk a3 m c3 (unitsS a ps (y * a + (x + 1))) := by
                have h1 := hG.out; rw [List.take_of_length_le (by rw [hl'.out]; omega), ← hus'.out, ← hn'.out] at h1; exact h1
              have hm2 : m ≤ 128 * (y * a + (x + 1)) := by have := hn'.out; omega
              have hm2' := Lib.hid hm2; clear hm2; have hG2' := Lib.hid hG2; clear hG2
              go_wp2
              go_roundw
              case rel => exact ⟨x + 1, m, a3, c3, by omega, hm2'.out, by go_num, rfl, hG2'⟩
              case measure => simp [intOf]; omega
        · have hxa : x = a := by omega
          have hG2 : OrdG W1 wx a3 m c3 (unitsS a ps ((y + 1) * a)) := by
            have h1 := hG.out; rw [hxa] at h1; rw [Nat.succ_mul]; exact h1
          have hm2 : m ≤ 128 * ((y + 1) * a) := by rw [show (y + 1) * a = y * a + a from Nat.succ_mul y a]; omega
          have hm2' := Lib.hid hm2; clear hm2; have hG2' := Lib.hid hG2; clear hG2
          go_wp2
          go_roundw
          case rel => exact ⟨y + 1, m, a3, c3, by omega, hm2'.out, by go_num, rfl, hG2'⟩
          case measure => simp [intOf]; omega
    · have hyd : y = d := by omega
      have hG2 := hG.out; rw [hyd] at hG2; clear hm; have hG2' := Lib.hid hG2; clear hG2
      go_wp2
      go_ret
      exact ⟨a3, m, c3, rfl, own_mono hG2'.out.1 hb1'.out.size, hb1'.out.trans (hG2'.out.2.mono hb1'.out.size)⟩
end Go.Proofs.Ytpjopeojeglogaa

namespace Go.Proofs.Ytpjopeojeglogaa
open Go.RowKit Tt
set_option linter.unusedVariables false
set_option linter.unusedSimpArgs false

set_option maxRecDepth 100000 in
set_option maxHeartbeats 4000000 in
theorem rsymbols_any (s : ScT) (bs : List BpM) (pa ba : Option Addr) (pn pc bn bc k : Nat) (w : World) (hs : PtsR w pa pn pc s.ps) (hb : BpsR w ba bn bc bs) (hmay : mayS s = true) (hwh : wholeS s (bs.map (·.1)) = true) (hk : k < (s.ax * s.dn).toNat * unitN s.ps) :
    Calls Try.prog 99 #[.agg #[.int .i64 s.ax, .int .i64 s.dn, .slice pa pn pc, .int .i64 s.iv], .slice ba bn bc, .int .i64 k] w (Cd11 (symsD s (bs.map (·.1)) (unitsS s.ax.toNat s.ps (s.ax * s.dn).toNat) k) w) := by
  have hl := hs.ilen; have hbl := hb.ilen; obtain ⟨htop, hpts, hsum⟩ := mayS_parts hmay; have hpn4 : pn ≤ 4 := by omega
  have hU12 := fun W (h : Below w.heap.size w W) => runit12_any s pa pn pc W (hs.mono h) hpts hpn4; have hO12 := fun W (h : Below w.heap.size w W) => rorder12_any s pa pn pc W (hs.mono h) hmay; obtain ⟨a, ha⟩ : ∃ a : Nat, s.ax = a := ⟨s.ax.toNat, by omega⟩; obtain ⟨d, hd⟩ : ∃ d : Nat, s.dn = d := ⟨s.dn.toNat, by omega⟩; obtain ⟨I, hI⟩ : ∃ I : Nat, s.iv = I := ⟨s.iv.toNat, by omega⟩; have ha512 : 1 ≤ a ∧ a ≤ 512 := by omega
  have hd512 : 1 ≤ d ∧ d ≤ 512 := by omega
  obtain ⟨N, hN⟩ : ∃ N, a * d = N := ⟨_, rfl⟩; have hNs : (s.ax * s.dn).toNat = N := by rw [ha, hd, ← Int.natCast_mul, hN]; rfl
  have hN2 : N ≤ 262144 := by rw [← hN]; exact Nat.le_trans (Nat.mul_le_mul ha512.2 hd512.2) (by omega)
  obtain ⟨U, hU⟩ : ∃ U, unitN s.ps = U := ⟨_, rfl⟩; have hul := unitS_len (a := a) hpts (by rw [hl]; exact hpn4) 0; rw [unitS_many, hU] at hul; have hU0 : 0 < U := by rcases Nat.eq_zero_or_pos U with h | h; (rw [hU, h] at hk; omega); exact h
  obtain ⟨UU, hUU⟩ : ∃ UU, unitsS a s.ps N = UU := ⟨_, rfl⟩; have hpl := fun j (hj : j < N * U) => place_whole hwh ha hd hN hU ha512.1 hpts hj; have hUl : UU.length = N * U := by rw [← hUU, unitsS_len, hU]
  rw [hNs, hU] at hk; obtain ⟨NU, hNU⟩ : ∃ q, N * U = q := ⟨_, rfl⟩; have hNU2 : NU ≤ 16777216 := by rw [← hNU]; exact Nat.le_trans (Nat.mul_le_mul hN2 hul) (by decide)
  have hord : orderS s = placesI UU := by unfold orderS; rw [ha, Int.toNat_natCast, ← ha, hNs, hUU]
  rw [hNU] at hk hpl hUl; rw [hUU] at hpl; have hfst := firstD_le s.iv U k; have hR : symsD s (bs.map (·.1)) (unitsS s.ax.toNat s.ps (s.ax * s.dn).toNat) k = symsD s (bs.map (·.1)) UU k := by rw [hNs, ha, Int.toNat_natCast, hUU]
  rw [hR]; obtain ⟨R, hRR⟩ : ∃ R, symsD s (bs.map (·.1)) UU k = R := ⟨_, rfl⟩; have hsy : symsD s (bs.map (·.1)) UU k = codeB (blkB (bs.map (·.1)) (UU.getD k (0, 0))) (lastD (bs.map (·.1)) (UU.getD k (0, 0)).1 ((UU.take k).drop (firstD s.iv U k))) := by unfold symsD; rw [hU]
  rw [hRR] at hsy ⊢; obtain ⟨f, hf⟩ : ∃ f, firstD s.iv U k = f := ⟨_, rfl⟩; have hfd : f = if 0 < s.iv then k / U / s.iv.toNat * s.iv.toNat * U else 0 := by rw [← hf]; rfl
  rw [hf] at hfst hsy; rw [hI, Int.toNat_natCast] at hfd; rw [hU, ha, hd, hI] at hU12; rw [ha, hd, hI] at hO12 ⊢; obtain ⟨y, py, By, xy, hy, hpy, hBy, hxy, hblk⟩ := hpl k hk; have hyd : UU.getD k (0, 0) = y := by rw [List.getD_eq_getElem?_getD, hy]; rfl
  rw [hyd, hblk] at hsy; obtain ⟨y0, y1⟩ := y; simp only at hpy hBy hxy hsy; have b1 := Blk.new w 24 #[.int .i64 (a : Int), .int .i64 (d : Int), .slice pa pn pc, .int .i64 (I : Int)]; have hb1 := (Below.refl w.heap.size w).alloc (Nat.le_refl _) (.cells #[.int .i64 (a : Int), .int .i64 (d : Int), .slice pa pn pc, .int .i64 (I : Int)] 24); obtain ⟨W1, hW1⟩ : ∃ W1, w.alloc (.cells #[.int .i64 (a : Int), .int .i64 (d : Int), .slice pa pn pc, .int .i64 (I : Int)] 24) = W1 := ⟨_, rfl⟩; rw [hW1] at b1 hb1; have hcs : ∀ W, Blk W w.heap.size 24 #[.int .i64 (a : Int), .int .i64 (d : Int), .slice pa pn pc, .int .i64 (I : Int)] → W.cell? ⟨w.heap.size, 0, none⟩ = some (.int .i64 (a : Int)) ∧ W.cell? ⟨w.heap.size, 1, none⟩ = some (.int .i64 (d : Int)) ∧ W.cell? ⟨w.heap.size, 2, none⟩ = some (.slice pa pn pc) ∧ W.cell? ⟨w.heap.size, 3, none⟩ = some (.int .i64 (I : Int)) := fun W b => ⟨b.cell rfl, b.cell rfl, b.cell rfl, b.cell rfl⟩; have hI65 : I ≤ 65535 := by omega
  obtain ⟨k0, k1, k2, k3⟩ := hcs W1 b1; clear hul hsum hR; have hs' := Lib.hid hs; have hb' := Lib.hid hb; have hl' := Lib.hid hl; have hbl' := Lib.hid hbl; have hmay' := Lib.hid hmay; have hwh' := Lib.hid hwh; have htop' := Lib.hid htop; have hpts' := Lib.hid hpts; have hU12' := Lib.hid hU12; have hO12' := Lib.hid hO12; have ha' := Lib.hid ha; have hd' := Lib.hid hd; have hI' := Lib.hid hI; have ha512' := Lib.hid ha512; have hd512' := Lib.hid hd512; have hN' := Lib.hid hN; have hNs' := Lib.hid hNs; have hU' := Lib.hid hU; have hUU' := Lib.hid hUU; have hpl' := Lib.hid hpl; have hUl' := Lib.hid hUl; have hNU' := Lib.hid hNU; have hord' := Lib.hid hord; have hRR' := Lib.hid hRR; have hsy' := Lib.hid hsy; have hf' := Lib.hid hf; have hfd' := Lib.hid hfd; have hy' := Lib.hid hy; have hpy' := Lib.hid hpy; have hBy' := Lib.hid hBy; have hxy' := Lib.hid hxy; have hblk' := Lib.hid hblk; have hyd' := Lib.hid hyd; have b1' := Lib.hid b1; have hb1' := Lib.hid hb1; have hW1' := Lib.hid hW1; have hcs' := Lib.hid hcs; clear hs hb hl hbl hmay hwh htop hpts hU12 hO12 ha hd hI ha512 hd512 hN hNs hU hUU hpl hUl hNU hord hRR hsy hf hfd hy hpy hBy hxy hblk hyd b1 hb1 hW1 hcs
  go_enter Try.func99, Try.ntmps99
  go_upto_region 1 with fail
  rw [hW1'.out]
  go_wp2_with fail
  refine (hO12'.out W1 hb1'.out).mono ?_; rintro e w2 ⟨oa, on, oc, rfl, ho2, hb2⟩; have hbw2 := hb1'.out.trans (hb2.mono hb1'.out.size); have b2 := b1'.out.late hb2; have so2 := (Sl.of_own ho2).1; rw [hord'.out] at so2
  have hon : on = 2 * NU := by
    have h1 := so2.ilen; rw [placesI_len, hUl'.out] at h1
    omega
  clear hb2 ho2 k0 k1 k2 k3; obtain ⟨k0, k1, k2, k3⟩ := hcs'.out w2 b2; have hbw2' := Lib.hid hbw2; have b2' := Lib.hid b2; have so2' := Lib.hid so2; clear hbw2 b2 so2
  go_wp2_with fail
  refine (hU12'.out w2 hbw2'.out).mono ?_; rintro e w3 ⟨rfl, hb3⟩; have hbw3 := hbw2'.out.trans (hb3.mono hbw2'.out.size); have b3 := b2'.out.late hb3; have so3 := so2'.out.mono hb3; subst hon; clear hb3 k0 k1 k2; obtain ⟨k0, k1, k2, k3⟩ := hcs'.out w3 b3; obtain ⟨ob, oo, hoa, hobb, fo⟩ := so3.at (show 2 * k < 2 * NU by omega); have hfo := fun j y (h : UU[j]? = some y) => (⟨fo (2 * j) _ (by unfold ints; rw [List.getElem?_map, (placesI_get UU j y h).1]; rfl), fo (2 * j + 1) _ (by unfold ints; rw [List.getElem?_map, (placesI_get UU j y h).2]; rfl)⟩ : w3.cell? ⟨ob, oo + 2 * j, none⟩ = some (.int .i64 (y.1 : Int)) ∧ w3.cell? ⟨ob, oo + (2 * j + 1), none⟩ = some (.int .i64 (y.2 : Int))); obtain ⟨q0, q1⟩ := hfo k _ hy'.out; simp only at q0 q1; subst hoa; clear fo; have hbw3' := Lib.hid hbw3; have b3' := Lib.hid b3; have so3' := Lib.hid so3; have hobb' := Lib.hid hobb; have hfo' := Lib.hid hfo; clear hbw3 b3 so3 hobb hfo
  go_upto_region 3 with fail
  go_quiet (fail)
  have l4 := Qt.below (⟨nq, rfl⟩ : Qt w3 (w3.drewN nq)) w3.heap.size; obtain ⟨w4, hw4⟩ : ∃ W, w3.drewN nq = W := ⟨_, rfl⟩; rw [hw4] at l4 ⊢; have hbw4 := hbw3'.out.trans (l4.mono hbw3'.out.size); have b4 := b3'.out.late l4; have hfo4 := fun j y h => (⟨(l4.cell (p := ⟨ob, _, none⟩) hobb'.out).trans (hfo'.out j y h).1, (l4.cell (p := ⟨ob, _, none⟩) hobb'.out).trans (hfo'.out j y h).2⟩ : w4.cell? ⟨ob, oo + 2 * j, none⟩ = some (.int .i64 (y.1 : Int)) ∧ w4.cell? ⟨ob, oo + (2 * j + 1), none⟩ = some (.int .i64 (y.2 : Int))); have hob4 : ob < w4.heap.size := Nat.lt_of_lt_of_le hobb'.out l4.size; clear l4 hw4 q0 q1 k0 k1 k2 k3; obtain ⟨k0, k1, k2, k3⟩ := hcs'.out w4 b4
  obtain ⟨bm, hbm, hbm1⟩ : ∃ bm, bs[y0]? = some bm ∧ bm.1 = By := by
    have h1 := hBy'.out; rw [List.getElem?_map] at h1
    cases h : bs[y0]? with
    | none => rw [h] at h1; cases h1
    | some bm => rw [h] at h1; injection h1 with h1; exact ⟨bm, rfl, h1⟩
  have hbok := hb'.out.ok bm (List.mem_of_getElem? hbm); clear k0 k1 k2; have hbw4' := Lib.hid hbw4; have b4' := Lib.hid b4; have hfo4' := Lib.hid hfo4; have hob4' := Lib.hid hob4; have hbm' := Lib.hid hbm; have hbm1' := Lib.hid hbm1; have hbok' := Lib.hid hbok; clear hbw4 b4 hfo4 hob4 hbm hbm1 hbok
  go_upto_if 32 with fail
  go_cut [12] from 15 (fun v wx => v = .int .i64 f ∧ Hid (Below w4.heap.size w4 wx))
  case first =>
    by_cases hI0 : 0 < I
    · obtain ⟨n, hn⟩ : ∃ n, k / U = n := ⟨_, rfl⟩
      obtain ⟨q, hq⟩ : ∃ q, n / I = q := ⟨_, rfl⟩; obtain ⟨m, hm⟩ : ∃ m, q * I = m := ⟨_, rfl⟩; have hmn : m ≤ n := by rw [← hm, ← hq]; exact Nat.div_mul_le_self _ _
      have hnk : n ≤ k := by rw [← hn]; exact Nat.div_le_self _ _
      have hqn : q ≤ n := by rw [← hq]; exact Nat.div_le_self _ _
      have hff : m * U = f := by rw [hfd'.out, if_pos (by omega), hn, hq, hm]
      have hUz : ¬ (U : Int) = 0 := by have := hU0; omega
      have hIz : ¬ (I : Int) = 0 := by omega
      have e1 : Int.tdiv (k : Int) (U : Int) = (n : Int) := by rw [← hn]; exact (Int.ofNat_tdiv k U).symm
      have e2 : Int.tdiv (n : Int) (I : Int) = (q : Int) := by rw [← hq]; exact (Int.ofNat_tdiv n I).symm
      have e3 : IntKind.i64.wrap ((q : Int) * I) = (m : Int) := by rw [← Int.natCast_mul, hm]; exact wrapN (by omega)
      have e4 : IntKind.i64.wrap ((m : Int) * U) = (f : Int) := by rw [← Int.natCast_mul, hff]; exact wrapN (by omega)
      clear hn hq hm hff
      go_wp2
      go_quiet (fail)
      go_wp2
      go_meet
      case rel => exact ⟨rfl, Lib.hid (Qt.below ⟨_, rfl⟩ _)⟩
    · obtain rfl : I = 0 := by omega
      have hf0 : f = 0 := by rw [hfd'.out, if_neg (by omega)]
      subst hf0
      go_wp2
      go_meet
      case rel => exact ⟨rfl, Lib.hid (Below.refl _ _)⟩
  case rest =>
  obtain ⟨rfl, hb5⟩ := hcut
  rename World => w5
  clear k3; have hl0 : (UU.take f).drop f = [] := List.drop_of_length_le (by rw [List.length_take]; exact Nat.min_le_left _ _)
  go_wp2
  go_loopw [13, 14] (fun lv iv wr => ∃ (i : Nat) (la : Int), f ≤ i ∧ i ≤ k ∧ iv = .int .i64 i ∧ lv = .int .i64 la ∧ Hid (la = lastD (bs.map (·.1)) y0 ((UU.take i).drop f)) ∧ Hid (Wf la) ∧ Hid (Below w4.heap.size w4 wr)) (fun _ iv _ => k - (intOf iv).toNat)
  case atStart => exact ⟨f, 0, by omega, hfst, rfl, rfl, Lib.hid (by rw [hl0]; rfl), Lib.hid (by unfold Wf; omega), hb5⟩
  case round =>
    rename World => wr
    obtain ⟨i, la, hfi, hik, rfl, rfl, hla, hlw, hbel⟩ := hrel
    by_cases hlt : i < k
    · obtain ⟨z, pz, Bz, xz, hz, hpz, hBz, hxz, hblz⟩ := hpl'.out i (by omega)
      obtain ⟨q0, q1⟩ := hfo4'.out i z hz; have q0 := (hbel.out.cell (p := ⟨ob, _, none⟩) hob4'.out).trans q0; have q1 := (hbel.out.cell (p := ⟨ob, _, none⟩) hob4'.out).trans q1; have htd := take_drop_snoc hfi hz; have hbwr := hbw4'.out.trans (hbel.out.mono hbw4'.out.size); have hls := @lastD_snoc (bs.map (·.1)) y0 ((UU.take i).drop f) z; rw [hblz, ← htd, ← hla.out] at hls; obtain ⟨z0, z1⟩ := z; simp only at q0 q1 hls hBz hxz
      by_cases hzy : z0 = y0
      · subst hzy
        rw [if_pos rfl] at hls
        have hBe : Bz = By := by
          have h1 := hBz.symm.trans hBy'.out; injection h1
        subst hBe; obtain ⟨bg, bo, hba, hbg, cB⟩ := (hb'.out.mono hbwr).elem hbm'.out; obtain ⟨xg, xo, hxa, hxg, cX⟩ := (hbok'.out.mono hbwr).row (k := z1) (x := xz) (by rw [hbm1'.out]; exact hxz); have hx64 : xz.length = 64 := hbok'.out.len xz (by rw [hbm1'.out]; exact List.mem_of_getElem? hxz); obtain ⟨x0, hx0⟩ : ∃ x0, xz.getD 0 0 = x0 := ⟨_, rfl⟩; have c0 : wr.cell? ⟨xg, xo + z1 * 64, none⟩ = some (.int .i64 x0) := cX 0 _ (by rw [← hx0]; exact ints_get (by omega)); have hxw : Wf x0 := wf_bd (hbok'.out.wf xz (by rw [hbm1'.out]; exact List.mem_of_getElem? hxz) x0 (by rw [← hx0]; exact get_mem (by omega))); rw [hx0] at hls; have cB2 : wr.cell? ⟨bg, bo + z0, none⟩ = some (.slice (some ⟨xg, xo, none⟩) bm.2.2.1 bm.2.2.2) := by rw [cB]; unfold bpV; rw [hxa]
        have hz1n : z1 < bm.2.2.1 := by
          rw [← hbok'.out.ilen, hbm1'.out]; exact (List.getElem?_eq_some_iff.1 hxz).1
        obtain ⟨bl2, hbl2⟩ : ∃ n, bm.2.2.1 = n := ⟨_, rfl⟩; obtain ⟨bc2, hbc2⟩ : ∃ n, bm.2.2.2 = n := ⟨_, rfl⟩; rw [hbl2] at hz1n cB2; rw [hbc2] at cB2; have hyn : z0 < bn := by rw [← hbl'.out]; exact (List.getElem?_eq_some_iff.1 hbm'.out).1
        have hyy : ((z0 : Int) == (z0 : Int)) = true := by simp
        subst hba; clear cX cB hBz; have hz' := Lib.hid hz; have hpz' := Lib.hid hpz; have hxz' := Lib.hid hxz; have hblz' := Lib.hid hblz; have htd' := Lib.hid htd; have hls' := Lib.hid hls; have hbwr' := Lib.hid hbwr; have hbg' := Lib.hid hbg; have hxa' := Lib.hid hxa; have hxg' := Lib.hid hxg; have hx64' := Lib.hid hx64; have hx0' := Lib.hid hx0; have hxw' := Lib.hid hxw; have hbl2' := Lib.hid hbl2; have hbc2' := Lib.hid hbc2; clear hz hpz hxz hblz htd hls hbwr hbg hxa hxg hx64 hx0 hxw hbl2 hbc2
        go_wp2
        go_quiet (fail)
        go_wp2
        go_roundw
        case rel => exact ⟨i + 1, x0, by omega, by omega, by go_num, rfl, Lib.hid hls'.out.symm, hxw', Lib.hid (below_dN hbel.out)⟩
        case measure => simp [intOf]; omega
      · rw [if_neg hzy] at hls
        have hyy : ((z0 : Int) == (y0 : Int)) = false := by simp; omega
        clear hzy; have hz' := Lib.hid hz; have hpz' := Lib.hid hpz; have hxz' := Lib.hid hxz; have hblz' := Lib.hid hblz; have htd' := Lib.hid htd; have hls' := Lib.hid hls; have hbwr' := Lib.hid hbwr; have hBz' := Lib.hid hBz; clear hz hpz hxz hblz htd hls hbwr hBz
        go_wp2
        go_roundw
        case rel => exact ⟨i + 1, la, by omega, by omega, by go_num, rfl, Lib.hid hls'.out.symm, hlw, hbel⟩
        case measure => simp [intOf]; omega
    · obtain rfl : i = k := by omega
      have hbwr := hbw4'.out.trans (hbel.out.mono hbw4'.out.size); obtain ⟨bg, bo, hba, hbg, cB⟩ := (hb'.out.mono hbwr).elem hbm'.out; obtain ⟨xg, xo, hxa, hxg, cX⟩ := (hbok'.out.mono hbwr).row (k := y1) (x := xy) (by rw [hbm1'.out]; exact hxy'.out); have hx64 : xy.length = 64 := hbok'.out.len xy (by rw [hbm1'.out]; exact List.mem_of_getElem? hxy'.out); have cB2 : wr.cell? ⟨bg, bo + y0, none⟩ = some (.slice (some ⟨xg, xo, none⟩) bm.2.2.1 bm.2.2.2) := by rw [cB]; unfold bpV; rw [hxa]
      have hz1n : y1 < bm.2.2.1 := by
        rw [← hbok'.out.ilen, hbm1'.out]; exact (List.getElem?_eq_some_iff.1 hxy'.out).1
      obtain ⟨bl2, hbl2⟩ : ∃ n, bm.2.2.1 = n := ⟨_, rfl⟩; obtain ⟨bc2, hbc2⟩ : ∃ n, bm.2.2.2 = n := ⟨_, rfl⟩; rw [hbl2] at hz1n cB2; rw [hbc2] at cB2; have hyn : y0 < bn := by rw [← hbl'.out]; exact (List.getElem?_eq_some_iff.1 hbm'.out).1
      obtain ⟨A, hA⟩ : ∃ A, (ints .i64 xy).toArray = A := ⟨_, rfl⟩; have hxi : (ints .i64 xy).length = 64 := by rw [ints_len]; exact hx64
      have HC := rcode11_any xy A hA la wr hx64 (fun x hx => wf_bd (hbok'.out.wf xy (by rw [hbm1'.out]; exact List.mem_of_getElem? hxy'.out) x hx)) hlw.out; have hRe : codeB xy la = R := by rw [hsy'.out, hla.out]
      rw [hRe] at HC; subst hba; clear cB hRe hlt; have hbwr' := Lib.hid hbwr; have hbg' := Lib.hid hbg; have hxa' := Lib.hid hxa; have hxg' := Lib.hid hxg; have hx64' := Lib.hid hx64; have hbl2' := Lib.hid hbl2; have hbc2' := Lib.hid hbc2; have hA' := Lib.hid hA; have hxi' := Lib.hid hxi; have HC' := Lib.hid HC; have cX' := Lib.hid cX; clear hbwr hbg hxa hxg hx64 hbl2 hbc2 hA hxi HC cX
      go_upto_region 13 with fail
      go_wp2_with (refine wpList_load_at rfl 129 (.tmp 75) rfl xg (xo + y1 * 64) rfl (ints .i64 xy) A hA'.out _ cX'.out Try.underlying129 rfl 64 infoB64 hxi'.out ?_)
      refine HC'.out.mono ?_; rintro e w6 ⟨hres, hb6⟩; have hbw6 := hbwr'.out.trans (hb6.mono hbwr'.out.size); clear hb6
      rcases hres with ⟨hno, rfl⟩ | ⟨l, a6, n6, c6, hyes, rfl, hn6, ho6⟩
      · have hno' := Lib.hid hno
        have hbw6' := Lib.hid hbw6; clear hno hbw6
        go_wp2
        go_ret2
        exact Cd11.no hno'.out rfl hbw6'.out
      · have ho7 := own_mono ho6 hbwr'.out.size
        clear ho6; have hyes' := Lib.hid hyes; have hbw6' := Lib.hid hbw6; have ho7' := Lib.hid ho7; have hn6' := Lib.hid hn6; clear hyes hbw6 ho7 hn6
        go_wp2
        go_ret2
        exact Cd11.yes hyes'.out rfl hn6'.out ho7'.out hbw6'.out
end Go.Proofs.Ytpjopeojeglogaa
