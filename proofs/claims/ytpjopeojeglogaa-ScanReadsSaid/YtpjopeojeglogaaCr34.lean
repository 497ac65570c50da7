/- Chapter 12, the document's side: Order. | Chapter 4 (plain): each code of a table from the one ahead of it. | Chapter 3, the document's side: Lowest. | Chapter 3, the document's side: Bits. -/
import Derived.Test.YtpjopeojeglogaaCr31
import Derived.Test.YtpjopeojeglogaaCr21
import Derived.Test.YtpjopeojeglogaaCr06
import Derived.Test.YtpjopeojeglogaaCr26
import Derived.Test.YtpjopeojeglogaaCr25
namespace Go.Proofs.Ytpjopeojeglogaa
open Go.RowKit Tt
set_option linter.unusedVariables false
set_option linter.unusedSimpArgs false

theorem placesI_one (X : List (Nat × Nat)) (e : Nat × Nat) : placesI (X ++ [e]) = placesI X ++ [(e.1 : Int), (e.2 : Int)] := by rw [placesI_app]; rfl
theorem at_make {a h v y x r c : Nat} (hx : x < a) (hc : c < h) : atU a h v (y * a + x) (r * h + c) = (y * v + r) * a * h + (x * h + c) := by
  unfold atU; rw [(quo_add hx).1, (quo_add hx).2, (quo_add hc).1, (quo_add hc).2]
/-- the places so far, in a row of the call's own -/
def OrdG (w0 w : World) (a3 : Option Addr) (m c3 : Nat) (X : List (Nat × Nat)) : Prop := w.ownsRow w0.heap.size 3 1 (.slice a3 m c3) m (ints .i64 (placesI X)) ∧ Below w0.heap.size w0 w
theorem ord_steps {a h v y x r c : Nat} (ha : a ≤ 512) (hh : h ≤ 4) (hv : v ≤ 4) (hy : y ≤ 512) (hx : x ≤ 512) (hr : r ≤ 4) (hc : c ≤ 4) :
    ∃ A1 A3 A4 A5 : Nat, A1 ≤ 2048 ∧ A3 ≤ 1050624 ∧ A4 ≤ 4202496 ∧ A5 ≤ 2048 ∧ IntKind.i64.wrap ((y : Int) * v) = A1 ∧ IntKind.i64.wrap (((A1 : Int) + r) * a) = A3 ∧ IntKind.i64.wrap ((A3 : Int) * h) = A4 ∧ IntKind.i64.wrap ((x : Int) * h) = A5 ∧ (y * v + r) * a * h + (x * h + c) = A4 + A5 + c := by
  have b1 : y * v ≤ 512 * 4 := Nat.mul_le_mul hy hv; have b3 : (y * v + r) * a ≤ 2052 * 512 := Nat.mul_le_mul (by omega) ha; have b4 : (y * v + r) * a * h ≤ 2052 * 512 * 4 := Nat.mul_le_mul b3 hh; have b5 : x * h ≤ 512 * 4 := Nat.mul_le_mul hx hh; refine ⟨y * v, (y * v + r) * a, (y * v + r) * a * h, x * h, by omega, by omega, by omega, by omega, ?_, ?_, ?_, ?_, by omega⟩
  · rw [← Int.natCast_mul]; exact wrapN (by omega)
  · rw [← Int.natCast_add, ← Int.natCast_mul]; exact wrapN (by omega)
  · rw [← Int.natCast_mul]; exact wrapN (by omega)
  · rw [← Int.natCast_mul]; exact wrapN (by omega)
set_option maxRecDepth 100000 in
set_option maxHeartbeats 1500000 in
theorem rorder12_any (s : ScT) (pa : Option Addr) (pn pc : Nat) (w : World) (hs : PtsR w pa pn pc s.ps) (hmay : mayS s = true) :
    Calls Try.prog 26 #[.agg #[.int .i64 s.ax, .int .i64 s.dn, .slice pa pn pc, .int .i64 s.iv]] w fun e w' => ∃ a2 n2 c2, e = .returned (.slice a2 n2 c2) ∧ w'.ownsRow w.heap.size 3 1 (.slice a2 n2 c2) n2 (ints .i64 (orderS s)) ∧ Below w.heap.size w w' := by
  obtain ⟨i0, hi, hz0, hz1, hz2⟩ := info_parts infoI; have hl := hs.ilen; obtain ⟨htop, hpts, hsum⟩ := mayS_parts hmay; unfold orderS; obtain ⟨ax, dn, iv, ps⟩ := s; simp only at hs hl hpts htop hsum ⊢; obtain ⟨a, rfl⟩ : ∃ a : Nat, ax = a := ⟨ax.toNat, by omega⟩; obtain ⟨d, rfl⟩ : ∃ a : Nat, dn = a := ⟨dn.toNat, by omega⟩; have ha : 1 ≤ a ∧ a ≤ 512 := by omega
  have hd : 1 ≤ d ∧ d ≤ 512 := by omega
  have hpn : pn ≤ 4 := by omega
  have eN2 : ((a : Int) * d).toNat = d * a := by rw [← Int.natCast_mul, Int.toNat_natCast, Nat.mul_comm]
  rw [eN2, Int.toNat_natCast]; have b1 := Blk.new w 24 #[.int .i64 a, .int .i64 d, .slice pa pn pc, .int .i64 iv]; have hb1 := (Below.refl w.heap.size w).alloc (Nat.le_refl _) (.cells #[.int .i64 a, .int .i64 d, .slice pa pn pc, .int .i64 iv] 24); obtain ⟨W1, hW1⟩ : ∃ W1, w.alloc (.cells #[.int .i64 a, .int .i64 d, .slice pa pn pc, .int .i64 iv] 24) = W1 := ⟨_, rfl⟩; rw [hW1] at b1 hb1; have hcs : ∀ W, Below W1.heap.size W1 W → W.cell? ⟨w.heap.size, 0, none⟩ = some (.int .i64 a) ∧ W.cell? ⟨w.heap.size, 1, none⟩ = some (.int .i64 d) ∧ W.cell? ⟨w.heap.size, 2, none⟩ = some (.slice pa pn pc) := fun W h => ⟨(b1.late h).cell rfl, (b1.late h).cell rfl, (b1.late h).cell rfl⟩; have hus := unitsS_snoc a ps; have huk := fun n k p => @unitS_snoc a n k ps p; clear hmay htop hsum eN2; have hs' := Lib.hid hs; have hl' := Lib.hid hl; have b1' := Lib.hid b1; have hb1' := Lib.hid hb1; have hW1' := Lib.hid hW1; have hcs' := Lib.hid hcs; have hpts' := Lib.hid hpts; have hus' := Lib.hid hus; have huk' := Lib.hid huk; clear hs hl b1 hb1 hW1 hcs hpts hus huk
  go_enter Try.func26, Try.ntmps26
  go_upto_region 1 with fail
  rw [hW1'.out]
  go_wp2
  go_loopw [3, 4, 5, 6, 7, 8, 9, 10] (fun ov yv _ _ _ _ _ _ wr => ∃ (y m : Nat) (a3 : Option Addr) (c3 : Nat), y ≤ d ∧ m ≤ 128 * (y * a) ∧ yv = .int .i64 y ∧ ov = .slice a3 m c3 ∧ Hid (OrdG W1 wr a3 m c3 (unitsS a ps (y * a)))) (fun _ yv _ _ _ _ _ _ _ => d - (intOf yv).toNat)
  case atStart => exact ⟨0, 0, none, 0, by omega, by omega, rfl, rfl, Lib.hid ⟨by rw [Nat.zero_mul]; exact own_nil _ _ _ _, Below.refl _ _⟩⟩
  case round =>
    rename World => wy
    obtain ⟨y, m, a3, c3, hy, hm, rfl, rfl, hG⟩ := hrel; obtain ⟨k0, k1, k2⟩ := hcs'.out wy hG.out.2
    by_cases hlt : y < d
    · have hya : y * a + a ≤ 262144 := by
        have : (y + 1) * a ≤ 512 * 512 := Nat.mul_le_mul (by omega) ha.2; rw [Nat.succ_mul] at this; omega
      go_wp2
      clear k0 k1 k2
      go_loopw [3, 5, 6, 7, 8, 9, 10] (fun ov xv _ _ _ _ _ wr => ∃ (x m : Nat) (a3 : Option Addr) (c3 : Nat), x ≤ a ∧ m ≤ 128 * (y * a + x) ∧ xv = .int .i64 x ∧ ov = .slice a3 m c3 ∧ Hid (OrdG W1 wr a3 m c3 (unitsS a ps (y * a + x)))) (fun _ xv _ _ _ _ _ _ => a - (intOf xv).toNat)
      case atStart => exact ⟨0, m, a3, c3, by omega, by omega, rfl, rfl, hG⟩
      case round =>
        rename World => wx
        obtain ⟨x, m, a3, c3, hx, hm, rfl, rfl, hG⟩ := hrel; obtain ⟨k0, k1, k2⟩ := hcs'.out wx hG.out.2
        by_cases hlt2 : x < a
        · obtain ⟨n, hn⟩ : ∃ n, y * a + x = n := ⟨_, rfl⟩
          have hn2 : n ≤ 262144 := by omega
          have hG0 := hG.out; rw [hn] at hG0 hm
          have hG1 : OrdG W1 wx a3 m c3 (unitsS a ps n ++ unitS a (ps.take 0) n) := by
            have e : unitS a (ps.take 0) n = [] := by simp [unitS]
            rw [e, List.append_nil]; exact hG0
          have hn' := Lib.hid hn; clear hG0 hn hya; have hG1' := Lib.hid hG1; clear hG1
          go_wp2
          clear k0 k1 k2
          go_loopw [3, 6, 7, 8, 9, 10] (fun ov kv _ _ _ _ wr => ∃ (k m : Nat) (a3 : Option Addr) (c3 : Nat), k ≤ pn ∧ m ≤ 128 * n + 32 * k ∧ kv = .int .i64 k ∧ ov = .slice a3 m c3 ∧ Hid (OrdG W1 wr a3 m c3 (unitsS a ps n ++ unitS a (ps.take k) n))) (fun _ kv _ _ _ _ _ => pn - (intOf kv).toNat)
          case atStart => exact ⟨0, m, a3, c3, by omega, by omega, rfl, rfl, hG1'⟩
          case round =>
            rename World => wk
            obtain ⟨k, m, a3, c3, hk, hm, rfl, rfl, hG⟩ := hrel; obtain ⟨k0, k1, k2⟩ := hcs'.out wk hG.out.2
            by_cases hlt3 : k < pn
            · obtain ⟨p, hp⟩ : ∃ p, ps[k]? = some p := ⟨_, List.getElem?_eq_getElem (by rw [hl'.out]; exact hlt3)⟩
              obtain ⟨g, o, rfl, hg, f⟩ := (hs'.out.mono (hb1'.out.trans (hG.out.2.mono hb1'.out.size))).elem hp; have hmp := mayPt_bd (hpts'.out k p hp); obtain ⟨h, hh⟩ : ∃ h : Nat, p.1 = h := ⟨p.1.toNat, by omega⟩; obtain ⟨v, hv⟩ : ∃ v : Nat, p.2.1 = v := ⟨p.2.1.toNat, by omega⟩; have f0 : wk.cell? ⟨g, o + k * 36, none⟩ = some (.int .i64 h) := by have := f 0 (.int .i64 p.1) rfl; rw [hh] at this; exact this
              have f1 : wk.cell? ⟨g, o + k * 36 + 1, none⟩ = some (.int .i64 v) := by have := f 1 (.int .i64 p.2.1) rfl; rw [hv] at this; exact this
              have hh4 : 1 ≤ h ∧ h ≤ 4 := by omega
              have hv4 : 1 ≤ v ∧ v ≤ 4 := by omega
              have hukp := huk'.out n k p hp; have hpl : ∀ j, plU a n k p j = (k, atU a h v n j) := fun j => by unfold plU; rw [hh, hv, Int.toNat_natCast, Int.toNat_natCast]
              have hup : unitP a n k p = (List.range (v * h)).map (plU a n k p) := by unfold unitP; rw [hh, hv, Int.toNat_natCast, Int.toNat_natCast, Nat.mul_comm]
              have hvh : v * h ≤ 16 := Nat.le_trans (Nat.mul_le_mul hv4.2 hh4.2) (by decide); rw [hup] at hukp
              have hG1 : ∀ q, OrdG W1 (wk.drewN q) a3 m c3 (unitsS a ps n ++ unitS a (ps.take k) n ++ (List.range (0 * h)).map (plU a n k p)) := fun q => by
                rw [Nat.zero_mul, List.range_zero, List.map_nil, List.append_nil]; exact ⟨own_later hG.out.1 (Qt.below ⟨q, rfl⟩ _), below_dN hG.out.2⟩
              clear f hmp; have hp' := Lib.hid hp; have hh' := Lib.hid hh; have hv' := Lib.hid hv; have hukp' := Lib.hid hukp; have hpl' := Lib.hid hpl; have hup' := Lib.hid hup; have hvh' := Lib.hid hvh; have hG1' := Lib.hid hG1; clear hp hh hv hukp hpl hup hvh hG1
              go_wp2
              go_quiet (fail)
              go_wp2
              clear k0 k1 k2 f0 f1
              go_loopw [3, 9, 10] (fun ov rv _ wr => ∃ (r m : Nat) (a3 : Option Addr) (c3 : Nat), r ≤ v ∧ m ≤ 128 * n + 32 * k + 2 * (r * h) ∧ rv = .int .i64 r ∧ ov = .slice a3 m c3 ∧ Hid (OrdG W1 wr a3 m c3 (unitsS a ps n ++ unitS a (ps.take k) n ++ (List.range (r * h)).map (plU a n k p)))) (fun _ rv _ _ => v - (intOf rv).toNat)
              case atStart => exact ⟨0, m, a3, c3, by omega, by omega, rfl, rfl, Lib.hid (hG1'.out _)⟩
              case round =>
                rename World => wrr
                obtain ⟨r, m, a3, c3, hr, hm, rfl, rfl, hG⟩ := hrel
                by_cases hlt4 : r < v
                · obtain ⟨q, hq⟩ : ∃ q, r * h = q := ⟨_, rfl⟩
                  rw [hq] at hm
                  have hqh : q + h ≤ 16 := by
                    have h1 : (r + 1) * h ≤ v * h := Nat.mul_le_mul_right _ hlt4; have := hvh'.out; rw [Nat.succ_mul] at h1; omega
                  have hG1 : OrdG W1 wrr a3 m c3 (unitsS a ps n ++ unitS a (ps.take k) n ++ (List.range (q + 0)).map (plU a n k p)) := by rw [Nat.add_zero, ← hq]; exact hG.out
                  have hq' := Lib.hid hq; have hG1' := Lib.hid hG1; clear hq hG1
                  go_wp2
                  go_loopw [3, 10] (fun ov cv wr => ∃ (c m : Nat) (a3 : Option Addr) (c3 : Nat), c ≤ h ∧ m ≤ 128 * n + 32 * k + 2 * (q + c) ∧ cv = .int .i64 c ∧ ov = .slice a3 m c3 ∧ Hid (OrdG W1 wr a3 m c3 (unitsS a ps n ++ unitS a (ps.take k) n ++ (List.range (q + c)).map (plU a n k p)))) (fun _ cv _ => h - (intOf cv).toNat)
                  case atStart => exact ⟨0, m, a3, c3, by omega, by omega, rfl, rfl, hG1'⟩
                  case round =>
                    rename World => wc
                    obtain ⟨c, m, a3, c3, hc, hm, rfl, rfl, hG⟩ := hrel; obtain ⟨k0, k1, k2⟩ := hcs'.out wc hG.out.2
                    by_cases hlt5 : c < h
                    · obtain ⟨A1, A3, A4, A5, B1, B3, B4, B5, e1, e3, e4, e5, e6⟩ := ord_steps (a := a) (h := h) (v := v) (y := y) (x := x) (r := r) (c := c) ha.2 hh4.2 hv4.2 (by omega) (by omega) (by omega) (by omega)
                      have hat := at_make (a := a) (h := h) (v := v) (y := y) (x := x) (r := r) (c := c) hlt2 hlt5; rw [hn'.out, hq'.out, e6] at hat
                      have hX : placesI (unitsS a ps n ++ unitS a (ps.take k) n ++ (List.range (q + (c + 1))).map (plU a n k p)) = placesI (unitsS a ps n ++ unitS a (ps.take k) n ++ (List.range (q + c)).map (plU a n k p)) ++ [(k : Int), ((A4 + A5 + c : Nat) : Int)] := by
                        rw [← Nat.add_assoc, range_snoc, ← List.append_assoc, placesI_one, hpl'.out, hat]
                      have hal := (Below.refl wc.heap.size wc).alloc (Nat.le_refl _) (.cells #[.int .i64 k, .int .i64 ((A4 : Int) + A5 + c)] 3); have s5 := Sl.new wc 3 1 2 #[.int .i64 k, .int .i64 ((A4 : Int) + A5 + c)] (0, 0) (by decide) rfl; have hO := own_later hG.out.1 hal; have hB := hG.out.2.trans (hal.mono hG.out.2.size); have hBs := hB.size; clear e6 hat hal; have hX' := Lib.hid hX; have s5' := Lib.hid s5; have hO' := Lib.hid hO; have hB' := Lib.hid hB; clear hX s5 hO hB
                      go_wp2_with (at_builtin; go_loud (refine wpList_app rfl _ _ 35 rfl W1.heap.size 3 i0 _ 1 8 Try.underlying35 hi hz0 (by assumption) hz2 rfl (by decide) _ m _ rfl hO'.out (some ⟨wc.heap.size, 0, none⟩) 2 2 _ rfl s5'.out (by simp [Value.oneCell']) (by omega) (by decide) hBs ?_; intro a7 c7 w7 ho7 hb7 hg7; have Ho7 := Lib.hid ho7; have Hb7 := Lib.hid (hB'.out.trans hb7); clear ho7 hb7 hg7))
                      go_roundw
                      case rel =>
                        have e : ((A4 + A5 + c : Nat) : Int) = (A4 : Int) + A5 + c := by omega
                        exact ⟨c + 1, m + 2, a7, c7, by omega, by omega, by go_num, rfl, Lib.hid ⟨by rw [hX'.out, ints_append]; simp only [ints, List.map_cons, List.map_nil, e]; exact Ho7.out, Hb7.out⟩⟩
                      case measure => simp [intOf]; omega
                    · have hch : c = h := by omega
                      have hG2 : OrdG W1 wc a3 m c3 (unitsS a ps n ++ unitS a (ps.take k) n ++ (List.range ((r + 1) * h)).map (plU a n k p)) := by
                        have h1 := hG.out; rw [hch, ← hq'.out] at h1; rw [Nat.succ_mul]; exact h1
                      have hm2 : m ≤ 128 * n + 32 * k + 2 * ((r + 1) * h) := by rw [show (r + 1) * h = r * h + h from Nat.succ_mul r h, hq'.out]; omega
                      have hm2' := Lib.hid hm2; clear hm2; have hG2' := Lib.hid hG2; clear hG2
                      go_wp2
                      go_roundw
                      case rel => exact ⟨r + 1, m, a3, c3, by omega, hm2'.out, by go_num, rfl, hG2'⟩
                      case measure => simp [intOf]; omega
                · have hrv : r = v := by omega
                  have hG2 : OrdG W1 wrr a3 m c3 (unitsS a ps n ++ unitS a (ps.take (k + 1)) n) := by
                    rw [hukp'.out, ← List.append_assoc, ← hrv]; exact hG.out
                  have hm2 : m ≤ 128 * n + 32 * (k + 1) := by
                    have := hvh'.out; rw [hrv] at hm; omega
                  clear hm; have hG2' := Lib.hid hG2; clear hG2
                  go_wp2
                  go_roundw
                  case rel => exact ⟨k + 1, m, a3, c3, by omega, by omega, by go_num, rfl, hG2'⟩
                  case measure => simp [intOf]; omega
            · have hkn : k = pn := by omega
              have hG2 : OrdG W1 wk a3 m c3 (unitsS a ps (y * a + (x + 1))) := by
                have h1 := hG.out; rw [List.take_of_length_le (by rw [hl'.out]; omega), ← hus'.out, ← hn'.out] at h1; exact h1
              have hm2 : m ≤ 128 * (y * a + (x + 1)) := by have := hn'.out; omega
              have hm2' := Lib.hid hm2; clear hm2; have hG2' := Lib.hid hG2; clear hG2
              go_wp2
              go_roundw
              case rel => exact ⟨x + 1, m, a3, c3, by omega, hm2'.out, by go_num, rfl, hG2'⟩
              case measure => simp [intOf]; omega
        · have hxa : x = a := by omega
          have hG2 : OrdG W1 wx a3 m c3 (unitsS a ps ((y + 1) * a)) := by
            have h1 := hG.out; rw [hxa] at h1; rw [Nat.succ_mul]; exact h1
          have hm2 : m ≤ 128 * ((y + 1) * a) := by rw [show (y + 1) * a = y * a + a from Nat.succ_mul y a]; omega
          have hm2' := Lib.hid hm2; clear hm2; have hG2' := Lib.hid hG2; clear hG2
          go_wp2
          go_roundw
          case rel => exact ⟨y + 1, m, a3, c3, by omega, hm2'.out, by go_num, rfl, hG2'⟩
          case measure => simp [intOf]; omega
    · have hyd : y = d := by omega
      have hG2 := hG.out; rw [hyd] at hG2; clear hm; have hG2' := Lib.hid hG2; clear hG2
      go_wp2
      go_ret
      exact ⟨a3, m, c3, rfl, own_mono hG2'.out.1 hb1'.out.size, hb1'.out.trans (hG2'.out.2.mono hb1'.out.size)⟩
end Go.Proofs.Ytpjopeojeglogaa

namespace Go.Proofs.Ytpjopeojeglogaa
set_option linter.unusedVariables false
set_option linter.unusedSimpArgs false

/-- the codes of less than i + 1 bits, and k of i + 1 bits -/
def upTo (c : List Int) (i k : Nat) : List (Int × Nat) := codesTo c i ++ (lvlS c i).take k
theorem lvl_len (c : List Int) (i : Nat) : (lvlS c i).length = (c.getD i 0).toNat := by simp [lvlS]
theorem upTo_succ {c : List Int} {i k : Nat} (hk : k < (c.getD i 0).toNat) : upTo c i (k + 1) = upTo c i k ++ [(valS c i + k, i + 1)] := by
  unfold upTo; rw [List.take_add_one, List.append_assoc]
  congr 2
  unfold lvlS; rw [List.getElem?_map, List.getElem?_range hk]
  rfl
theorem upTo_full {c : List Int} {i k : Nat} (hk : (c.getD i 0).toNat ≤ k) : upTo c i k = upTo c (i + 1) 0 := by
  unfold upTo; rw [List.take_of_length_le (by rw [lvl_len]; exact hk), codesTo_succ, List.take_zero, List.append_nil]
theorem upTo_all (c : List Int) : upTo c 16 0 = codesS c := by unfold upTo codesS; rw [List.take_zero, List.append_nil]
def NextP (c : List Int) (i k : Nat) : Prop := (upTo c i k = [] ∧ valS c i + k = 0) ∨ ∃ x, (upTo c i k).getLast? = some x ∧ 1 ≤ x.2 ∧ x.2 ≤ i + 1 ∧ (x.1 + 1) * 2 ^ (i + 1 - x.2) = valS c i + k
theorem nextP_in {c : List Int} {i : Nat} (h0 : NextP c i 0) : ∀ k, k ≤ (c.getD i 0).toNat → NextP c i k := by
  intro k
  induction k with
  | zero => intro _; exact h0
  | succ k ih =>
    intro hk; refine .inr ⟨(valS c i + k, i + 1), ?_, by simp, by simp, ?_⟩
    · rw [upTo_succ (by omega)]; simp
    · simp only [Nat.sub_self, Int.pow_zero, Int.mul_one]; omega
theorem codes_last {c : List Int} (hc : ∀ i, i < 16 → 0 ≤ c.getD i 0) : ∀ i, i < 16 → ∀ k, k ≤ (c.getD i 0).toNat → NextP c i k := by
  intro i
  induction i with
  | zero => intro _; exact nextP_in (.inl ⟨by simp [upTo, codesTo], by simp [valS]⟩)
  | succ i ih =>
    intro hi; refine nextP_in ?_; have h1 := ih (by omega) (c.getD i 0).toNat (Nat.le_refl _); have h2 := upTo_full (c := c) (i := i) (Nat.le_refl _); have hn := hc i (by omega); have hv : valS c (i + 1) = 2 * (valS c i + c.getD i 0) := rfl; unfold NextP at h1 ⊢; rw [h2] at h1
    rcases h1 with ⟨e, h⟩ | ⟨x, e, h3, h4, h⟩
    · exact .inl ⟨e, by rw [hv]; omega⟩
    · refine .inr ⟨x, e, h3, by omega, ?_⟩
      rw [show i + 1 + 1 - x.2 = (i + 1 - x.2) + 1 by omega, Int.pow_succ, ← Int.mul_assoc, h, hv]
      omega
end Go.Proofs.Ytpjopeojeglogaa

namespace Go.Proofs.Ytpjopeojeglogaa
open Go.RowKit Tt
set_option linter.unusedVariables false
set_option linter.unusedSimpArgs false

theorem lowS_take {v : Int} {n j q : Nat} (h : j + (q + 1) = n) : (lowS v n).take (j + 1) = (lowS v n).take j ++ [v / 2 ^ q % 2] := by
  rw [List.take_add_one]
  congr 1
  unfold lowS; rw [List.getElem?_map, List.getElem?_range (by omega)]
  show [v / 2 ^ (n - 1 - j) % 2] = _
  rw [show n - 1 - j = q by omega]
theorem and1 (i : Nat) (h : i < 9223372036854775808) : bits .and .i64 (i : Int) 1 = ((i % 2 : Nat) : Int) := by
  rw [show (1 : Int) = ((1 : Nat) : Int) from rfl, and_i64 i 1 h (by decide), show (1 : Nat) = 2 ^ 1 - 1 from rfl, Nat.and_two_pow_sub_one_eq_mod]
set_option maxRecDepth 100000 in
set_option maxHeartbeats 4000000 in
theorem rlow_any (v n : Nat) (w : World) (hv : v < 4294967296) (hn : n ≤ 16) :
    Calls Try.prog 100 #[.int .i64 v, .int .i64 n] w fun e w' => ∃ a2 c2, e = .returned (.slice a2 n c2) ∧ w'.ownsRow w.heap.size 3 1 (.slice a2 n c2) n (ints .i64 (lowS v n)) ∧ Below w.heap.size w w' := by
  obtain ⟨i0, hi, hz0, hz1, hz2⟩ := info_parts infoI
  go_enter Try.func100, Try.ntmps100
  go_wp2
  go_loopw [5, 6] (fun ov iv wr => ∃ (j k : Nat) (a2 : Option Addr) (c2 : Nat), j + k = n ∧ iv = .int .i64 ((k : Int) - 1) ∧ ov = .slice a2 j c2 ∧ Hid (wr.ownsRow w.heap.size 3 1 (.slice a2 j c2) j (ints .i64 ((lowS v n).take j))) ∧ Hid (Below w.heap.size w wr)) (fun _ iv _ => (intOf iv + 1).toNat)
  case atStart => exact ⟨0, n, none, 0, by omega, by go_num, rfl, Lib.hid (own_nil _ _ _ _), Lib.hid (Below.refl _ _)⟩
  case round =>
    rename World => wr
    obtain ⟨j, k, a2, c2, hjk, rfl, rfl, hown, hbel⟩ := hrel
    cases k with
    | zero =>
      have hl := List.take_of_length_le (l := lowS v n) (i := j) (by rw [lowS_len]; omega); have hjn : j = n := by omega
      subst hjn; have ho := hown.out; rw [hl] at ho; clear hown hl; have ho' := Lib.hid ho; clear ho
      go_wp2
      go_ret
      exact ⟨a2, c2, rfl, ho'.out, hbel.out⟩
    | succ q =>
      have hst := lowS_take (v := v) hjk; have hsz := hbel.out.size; have eq1 : ((q + 1 : Nat) : Int) - 1 = q := by omega
      have h1 : bits .and .i64 ((v : Int) / 2 ^ q) 1 = (v : Int) / 2 ^ q % 2 := by
        have e : (v : Int) / 2 ^ q = ((v / 2 ^ q : Nat) : Int) := by rw [Int.natCast_ediv, Int.natCast_pow]; rfl
        rw [e, and1 (v / 2 ^ q) (Nat.lt_of_le_of_lt (Nat.div_le_self _ _) (by omega))]
        rfl
      rw [← h1] at hst; simp only [eq1]; have hq : q < 16 := by omega
      clear h1 eq1; have hst' := Lib.hid hst; have hsz' := Lib.hid hsz; have hjk' := Lib.hid hjk; clear hst hsz hjk
      go_wp2_with (at_builtin; refine wpList_app_lit rfl _ _ 35 rfl w.heap.size 3 i0 _ 1 8 Try.underlying35 hi hz0 (by assumption) hz2 rfl (by decide) _ j _ rfl hown.out #[.int .i64 (bits .and .i64 ((v : Int) / 2 ^ q) 1)] rfl rfl (by simp [Value.oneCell']) (by have := hjk'.out; omega) (by decide) w hbel.out hsz'.out ?_; intro a5 c5 w5 ho5 hb5; have Ho5 := Lib.hid ho5; have Hb5 := Lib.hid hb5; clear ho5 hb5)
      go_roundw
      case rel => exact ⟨j + 1, q, a5, c5, by have := hjk'.out; omega, by go_num, rfl, Lib.hid (by rw [hst'.out]; exact ints_append (k := .i64) ▸ Ho5.out), Hb5⟩
      case measure => simp [intOf]
end Go.Proofs.Ytpjopeojeglogaa

namespace Go.Proofs.Ytpjopeojeglogaa
open Go.RowKit Tt
set_option linter.unusedVariables false
set_option linter.unusedSimpArgs false

set_option maxRecDepth 100000 in
set_option maxHeartbeats 4000000 in
theorem rbits_any (a : Option Addr) (n c : Nat) (z : List Int) (w : World) (hs : Sl w a n c 1 (ints .u8 z)) (hn : n ≤ 1000) (hb : Byt z) :
    Calls Try.prog 81 #[.slice a n c] w fun e w' => ∃ a2 m c2, e = .returned (.slice a2 m c2) ∧ m = (bitsS (plainS z).1).length ∧ w'.ownsRow w.heap.size 3 1 (.slice a2 m c2) m (ints .i64 (bitsS (plainS z).1)) ∧ Below w.heap.size w w' := by
  obtain ⟨i0, hi, hz0, hz1, hz2⟩ := info_parts infoI; have HD := rdata_any a n c z w hs (by omega); obtain ⟨u, hu⟩ : ∃ u, (plainS z).2 = u := ⟨_, rfl⟩; have hpl := plainS_le z.length z (Nat.le_refl _); have hl := hs.ilen; have hby := plainS_byt z.length z (Nat.le_refl _) hb; have hcut := plainS_cut z.length z (Nat.le_refl _); rw [hu] at HD hpl hcut; rw [hl] at hpl; obtain ⟨D, hD⟩ : ∃ D, (plainS z).1 = D := ⟨_, rfl⟩; rw [hD] at hpl hby ⊢; have hun := hpl.2; have hDl := hpl.1; have hzl : (z.take u).length = u := by rw [List.length_take, hl]; omega
  have hz4 : (plainS (z.take u)).2 = (z.take u).length := by rw [hcut, hu, hzl]
  have hD4 : (plainS (z.take u)).1 = D := by rw [hcut, hD]
  clear hpl hcut hb hD hl hu; have hs' := Lib.hid hs; have HD' := Lib.hid HD; have hby' := Lib.hid hby
  have hzl' := Lib.hid hzl; have hz4' := Lib.hid hz4; have hD4' := Lib.hid hD4; clear hs HD hby hzl hz4 hD4
  go_enter Try.func81, Try.ntmps81
  go_wp2_with fail
  refine HD'.out.mono ?_; rintro e w1 ⟨rfl, hb1⟩; obtain ⟨a4, r4, s4, i4⟩ := sub_h (P := Try.prog) Try.underlying30 sizeU8 (hs'.out.mono hb1) u (by omega) (by omega) u rfl; rw [Nat.mul_one, show (ints .u8 z).take u = ints .u8 (z.take u) by unfold ints; rw [List.map_take]] at s4; have HB := rbare_any a4 u c (z.take u) w1 s4 (by omega) hz4'.out; rw [hD4'.out] at HB; clear s4 i4; have HB' := Lib.hid HB; have hb1' := Lib.hid hb1; clear HB hb1
  go_wp2_with fail
  refine HB'.out.mono ?_; rintro e w2 ⟨a5, m5, c5, rfl, hm5, ho5, hb2⟩; have hbw := hb1'.out.trans (hb2.mono hb1'.out.size); have hm5b : m5 ≤ 1000 := by omega
  have s5 := (Sl.of_own ho5).1; clear hb2 ho5 r4; have hbw' := Lib.hid hbw; have s5' := Lib.hid s5; have hm5' := Lib.hid hm5; clear hbw s5 hm5
  go_wp2
  go_loopw [4, 5] (fun ov iv wr => ∃ (j : Nat) (a2 : Option Addr) (c2 : Nat), j ≤ m5 ∧ iv = .int .i64 j ∧ ov = .slice a2 (8 * j) c2 ∧ Hid (wr.ownsRow w2.heap.size 3 1 (.slice a2 (8 * j) c2) (8 * j) (ints .i64 (bitsS (D.take j)))) ∧ Hid (Below w2.heap.size w2 wr)) (fun _ iv _ => m5 - (intOf iv).toNat)
  case atStart => exact ⟨0, none, 0, by omega, rfl, rfl, Lib.hid (own_nil _ _ _ _), Lib.hid (Below.refl _ _)⟩
  case round =>
    rename World => wr
    obtain ⟨j, a2, c2, hj, rfl, rfl, hown, hbel⟩ := hrel; have hDm := hm5'.out
    by_cases hlt : j < m5
    · obtain ⟨b, o, rfl, hbb, f⟩ := (s5'.out.mono hbel.out).at hlt
      have f0 := f j _ (ints_get (by omega)); obtain ⟨x, hx⟩ : ∃ x, D.getD j 0 = x := ⟨_, rfl⟩; have hxD : D[j]? = some x := by rw [List.getD_eq_getElem?_getD, List.getElem?_eq_getElem (by omega)] at hx; rw [List.getElem?_eq_getElem (by omega)]; exact congrArg some hx
      have hxb := hby'.out x (List.mem_of_getElem? hxD); rw [hx] at f0; obtain ⟨y, rfl⟩ : ∃ y : Nat, x = y := ⟨x.toNat, by omega⟩; have HL := rlow_any y 8 wr (by omega) (by decide); have hst : bitsS (D.take (j + 1)) = bitsS (D.take j) ++ lowS y 8 := by rw [List.take_add_one, hxD]; exact bitsS_snoc _ _
      have hsz := hbel.out.size; have e8 : 8 * (j + 1) = 8 * j + 8 := by omega
      clear f; have HL' := Lib.hid HL; have hst' := Lib.hid hst; have hsz' := Lib.hid hsz; have hxD' := Lib.hid hxD; have hx' := Lib.hid hx; have hDm' := Lib.hid hDm; have e8' := Lib.hid e8; clear HL hst hsz hxD hx hDm e8
      go_wp2_with fail
      refine HL'.out.mono ?_; rintro e w6 ⟨a6, c6, rfl, ho6, hb6⟩; have s6 := (Sl.of_own ho6).1; have hown6 := own_later hown.out hb6; have hbel6 := hbel.out.trans (hb6.mono hsz'.out); have hsz6 := hbel6.size; clear ho6 hb6 f0; have s6' := Lib.hid s6; have hown6' := Lib.hid hown6; have hbel6' := Lib.hid hbel6; have hsz6' := Lib.hid hsz6; clear s6 hown6 hbel6 hsz6
      go_wp2_with (at_builtin; refine wpList_app rfl _ _ 35 rfl w2.heap.size 3 i0 _ 1 8 Try.underlying35 hi hz0 (by assumption) hz2 rfl (by decide) _ (8 * j) _ rfl hown6'.out a6 8 c6 _ rfl s6'.out ints_one (by omega) (by decide) hsz6'.out ?_; intro a7 c7 w7 ho7 hb7 hg7; have Ho7 := Lib.hid ho7; have Hb7 := Lib.hid (hbel6'.out.trans hb7); clear ho7 hb7 hg7)
      go_roundw
      case rel => exact ⟨j + 1, a7, c7, by omega, by go_num, rfl, Lib.hid (by rw [hst'.out]; exact ints_append (k := .i64) ▸ Ho7.out), Hb7⟩
      case measure => simp [intOf]; omega
    · obtain rfl : j = m5 := by omega
      have ho := hown.out; rw [List.take_of_length_le (by omega)] at ho; have hml : 8 * j = (bitsS D).length := by rw [bitsS_len, hDm]
      have hbq := hbw'.out.trans (hbel.out.mono hbw'.out.size); have ho' := Lib.hid ho; have hml' := Lib.hid hml; have hDm' := Lib.hid hDm; have hbq' := Lib.hid hbq; clear ho hml hDm hbq
      go_wp2
      go_ret
      exact ⟨a2, 8 * j, c2, rfl, hml'.out, own_mono ho'.out hbw'.out.size, hbq'.out⟩
end Go.Proofs.Ytpjopeojeglogaa
