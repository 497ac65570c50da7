/- Chapter 12: the order of a scan's blocks: the program. | Chapter 12: blocks in memory; whether they are whole; which units restart: the program. -/
import Derived.Test.YtpjopeojeglogaaCr14
namespace Go.Proofs.Ytpjopeojeglogaa
open Go.RowKit Tt
set_option linter.unusedVariables false
set_option linter.unusedSimpArgs false

def placesI (l : List (Nat × Nat)) : List Int := l.flatMap fun x => [(x.1 : Int), (x.2 : Int)]
theorem placesI_app (l m : List (Nat × Nat)) : placesI (l ++ m) = placesI l ++ placesI m := by unfold placesI; rw [List.flatMap_append]
theorem placesI_snoc {l : List (Nat × Nat)} {j : Nat} {x : Nat × Nat} (h : l[j]? = some x) : placesI (l.take (j + 1)) = placesI (l.take j) ++ [(x.1 : Int), (x.2 : Int)] := by
  rw [List.take_add_one, h, Option.toList_some, placesI_app]; rfl
/-- the blocks of the first units -/
def unitsS (a : Nat) (ps : List PtM) (n : Nat) : List (Nat × Nat) := ((List.range n).map (unitS a ps)).flatten
theorem unitsS_snoc (a : Nat) (ps : List PtM) (n : Nat) : unitsS a ps (n + 1) = unitsS a ps n ++ unitS a ps n := by
  unfold unitsS; rw [List.range_succ, List.map_append, List.flatten_append]; simp
def orderS (s : ScT) : List Int := placesI (unitsS s.ax.toNat s.ps (s.ax * s.dn).toNat)
theorem placesC_len (l : List (Nat × Nat)) : (placesC l).length = l.length * 2 := flat_len placeC 2 l (fun x _ => rfl)
/-- an element of a row of places -/
theorem place_elem {w : World} {a : Option Addr} {n c : Nat} {l : List (Nat × Nat)} (hs : Sl w a n c 2 (placesC l)) {j : Nat} {x : Nat × Nat} (hx : l[j]? = some x) :
    ∃ b o, a = some ⟨b, o, none⟩ ∧ b < w.heap.size ∧ w.cell? ⟨b, o + j * 2, none⟩ = some (.int .i64 x.1) ∧ w.cell? ⟨b, o + j * 2 + 1, none⟩ = some (.int .i64 x.2) := by
  have hl : l.length = n := by
    have h1 := hs.len; rw [placesC_len] at h1; omega
  have hj : j < n := by rw [← hl]; exact (List.getElem?_eq_some_iff.1 hx).1
  obtain ⟨b, o, e, hb, _, hc⟩ := hs.elem hj; unfold placesC at hc; rw [flat_elem placeC 2 l (fun q hq => rfl) j x hx] at hc; exact ⟨b, o, e, hb, hc 0 _ rfl, hc 1 _ rfl⟩
theorem unitS_len {a : Nat} {ps : List PtM} (hp : ∀ (k : Nat) p, ps[k]? = some p → mayPt p = true) (hl : ps.length ≤ 4) (n : Nat) : (unitS a ps n).length ≤ 64 := by
  have : ∀ k, k ≤ ps.length → (unitS a (ps.take k) n).length ≤ 16 * k := by
    intro k
    induction k with
    | zero => intro _; simp [unitS]
    | succ k ih =>
      intro hk; have hx : ps[k]? = some ps[k] := List.getElem?_eq_getElem (by omega); have hm := mayPt_bd (hp k _ hx); have h2 : ps[k].1.toNat * ps[k].2.1.toNat ≤ 4 * 4 := Nat.mul_le_mul (by omega) (by omega); rw [unitS_snoc hx, List.length_append]; have h3 : (unitP a n k ps[k]).length = ps[k].1.toNat * ps[k].2.1.toNat := by unfold unitP; rw [List.length_map, List.length_range]
      have := ih (by omega)
      omega
  have h := this ps.length (Nat.le_refl _); rw [List.take_length] at h
  omega
set_option maxRecDepth 100000 in
set_option maxHeartbeats 4000000 in
theorem scorder_any (s : ScT) (pa : Option Addr) (pn pc : Nat) (w : World) (hs : PtsR w pa pn pc s.ps) (hw1 : Wf s.ax) (hw2 : Wf s.dn) (hw3 : Wf s.iv) (hpw : ∀ p ∈ s.ps, Wf p.1 ∧ Wf p.2.1) :
    Calls Try.prog 24 #[.agg #[.int .i64 s.ax, .int .i64 s.dn, .slice pa pn pc, .int .i64 s.iv]] w fun e w' => ∃ a n c, e = .returned (.slice a n c) ∧ Below w.heap.size w w' ∧ w'.ownsRow w.heap.size 3 1 (.slice a n c) n (ints .i64 (if mayS s then orderS s else [])) := by
  obtain ⟨i1, hi, hz0, hz1, hz2⟩ := info_parts infoI; have HM := fun W (h : Below w.heap.size w W) => scmay_any s pa pn pc W (hs.mono h) hw1 hw2 hw3 hpw; obtain ⟨R, hR⟩ : ∃ R, mayS s = R := ⟨_, rfl⟩; rw [hR] at HM ⊢
  cases R with
  | false =>
    simp only [Bool.false_eq_true, if_false]; obtain ⟨ax, dn, iv, ps⟩ := s; have b1 := Blk.new w 24 #[.int .i64 ax, .int .i64 dn, .slice pa pn pc, .int .i64 iv]; have hb1 := (Below.refl w.heap.size w).alloc (Nat.le_refl _) (.cells #[.int .i64 ax, .int .i64 dn, .slice pa pn pc, .int .i64 iv] 24); obtain ⟨W1, hW1⟩ : ∃ W1, w.alloc (.cells #[.int .i64 ax, .int .i64 dn, .slice pa pn pc, .int .i64 iv] 24) = W1 := ⟨_, rfl⟩; rw [hW1] at b1 hb1; have k0 : W1.cell? ⟨w.heap.size, 0, none⟩ = some (.int .i64 ax) := b1.cell rfl; have k1 : W1.cell? ⟨w.heap.size, 1, none⟩ = some (.int .i64 dn) := b1.cell rfl; have k2 : W1.cell? ⟨w.heap.size, 2, none⟩ = some (.slice pa pn pc) := b1.cell rfl; have k3 : W1.cell? ⟨w.heap.size, 3, none⟩ = some (.int .i64 iv) := b1.cell rfl; have hs' := Lib.hid hs; have b1' := Lib.hid b1; have hb1' := Lib.hid hb1; have hW1' := Lib.hid hW1; have hpw' := Lib.hid hpw; have hR' := Lib.hid hR; have HM' := Lib.hid HM; have hw1' := Lib.hid hw1; have hw2' := Lib.hid hw2; have hw3' := Lib.hid hw3; clear hs b1 hb1 hW1 hpw hR HM hw1 hw2 hw3
    go_enter Try.func24, Try.ntmps24
    go_upto_region 1 with fail
    rw [hW1'.out]
    go_wp2_with fail
    refine (HM'.out _ hb1'.out).mono ?_; rintro e w2 ⟨rfl, hb2⟩; have hbw2 := hb1'.out.trans (hb2.mono hb1'.out.size); clear k0 k1 k2 k3 hb2; have hbw2' := Lib.hid hbw2; clear hbw2
    go_wp2
    go_ret
    exact ⟨none, 0, 0, rfl, hbw2'.out, own_nil _ _ _ _⟩
  | true =>
    simp only [if_true]; have HU := fun W (h : Below w.heap.size w W) (m : Nat) (hm : m ≤ 262144) => unit_any s pa pn pc m W (hs.mono h) hR hm; obtain ⟨htop, hpts, hsum⟩ := mayS_parts hR; unfold orderS; obtain ⟨ax, dn, iv, ps⟩ := s; simp only at hs htop hpts HU HM hw1 hw2 hw3 ⊢; obtain ⟨a, rfl⟩ : ∃ a : Nat, ax = a := ⟨ax.toNat, by omega⟩; obtain ⟨d, rfl⟩ : ∃ a : Nat, dn = a := ⟨dn.toNat, by omega⟩; have hul := fun m => unitS_len (a := a) hpts (by omega) m; obtain ⟨U, hU⟩ : ∃ U, unitS a ps = U := ⟨_, rfl⟩; have hus := unitsS_snoc a ps; obtain ⟨N, hN⟩ : ∃ N, a * d = N := ⟨_, rfl⟩; have hN2 : N ≤ 262144 := by rw [← hN]; exact Nat.le_trans (Nat.mul_le_mul (show a ≤ 512 by omega) (show d ≤ 512 by omega)) (by omega)
    have eN : IntKind.i64.wrap ((a : Int) * d) = N := by rw [← Int.natCast_mul, hN]; exact wrapN (by omega)
    have eN2 : ((a : Int) * d).toNat = N := by rw [← Int.natCast_mul, hN]; rfl
    rw [eN2]; rw [Int.toNat_natCast] at HU ⊢; have b1 := Blk.new w 24 #[.int .i64 a, .int .i64 d, .slice pa pn pc, .int .i64 iv]; have hb1 := (Below.refl w.heap.size w).alloc (Nat.le_refl _) (.cells #[.int .i64 a, .int .i64 d, .slice pa pn pc, .int .i64 iv] 24); obtain ⟨W1, hW1⟩ : ∃ W1, w.alloc (.cells #[.int .i64 a, .int .i64 d, .slice pa pn pc, .int .i64 iv] 24) = W1 := ⟨_, rfl⟩; rw [hW1] at b1 hb1; have hcs : ∀ W, Blk W w.heap.size 24 #[.int .i64 a, .int .i64 d, .slice pa pn pc, .int .i64 iv] → W.cell? ⟨w.heap.size, 0, none⟩ = some (.int .i64 a) ∧ W.cell? ⟨w.heap.size, 1, none⟩ = some (.int .i64 d) ∧ W.cell? ⟨w.heap.size, 2, none⟩ = some (.slice pa pn pc) ∧ W.cell? ⟨w.heap.size, 3, none⟩ = some (.int .i64 iv) := fun W b => ⟨b.cell rfl, b.cell rfl, b.cell rfl, b.cell rfl⟩; obtain ⟨k0, k1, k2, k3⟩ := hcs W1 b1; clear eN2 hsum; rw [hU] at HU hul; have hus : ∀ n, unitsS a ps (n + 1) = unitsS a ps n ++ U n := fun n => by rw [hus, hU]
    have hs' := Lib.hid hs; have b1' := Lib.hid b1; have hb1' := Lib.hid hb1; have hW1' := Lib.hid hW1; have hpw' := Lib.hid hpw; have hR' := Lib.hid hR; have HM' := Lib.hid HM; have HU' := Lib.hid HU; have hw1' := Lib.hid hw1; have hw2' := Lib.hid hw2; have hw3' := Lib.hid hw3; have htop' := Lib.hid htop; have hpts' := Lib.hid hpts; have hul' := Lib.hid hul; have hus' := Lib.hid hus; have hU' := Lib.hid hU; have hN' := Lib.hid hN; have hcs' := Lib.hid hcs; clear hs b1 hb1 hW1 hpw hR HM HU hw1 hw2 hw3 htop hpts hul hus hU hN hcs
    go_enter Try.func24, Try.ntmps24
    go_upto_region 1 with fail
    rw [hW1'.out]
    go_wp2_with fail
    refine (HM'.out _ hb1'.out).mono ?_; rintro e w2 ⟨rfl, hb2⟩; have hbw2 := hb1'.out.trans (hb2.mono hb1'.out.size); have b2 := b1'.out.late hb2; obtain ⟨k0, k1, k2, k3⟩ := hcs'.out w2 b2; clear hb2 k2 k3; have hbw2' := Lib.hid hbw2; have b2' := Lib.hid b2; clear hbw2 b2
    go_wp2
    clear k0 k1
    go_loopw [3, 4, 6, 15] (fun ov _ _ xv wr => ∃ (n n3 : Nat) (a3 : Option Addr) (c3 : Nat), n ≤ N ∧ n3 ≤ 128 * n ∧ xv = .int .i64 n ∧ ov = .slice a3 n3 c3 ∧ Hid (Blk wr w.heap.size 24 #[.int .i64 a, .int .i64 d, .slice pa pn pc, .int .i64 iv]) ∧ Hid (wr.ownsRow (w.heap.size + 1) 3 1 (.slice a3 n3 c3) n3 (ints .i64 (placesI (unitsS a ps n)))) ∧ Hid (Below w.heap.size w wr)) (fun _ _ _ xv _ => N - (intOf xv).toNat)
    case atStart => exact ⟨0, 0, none, 0, by omega, by omega, rfl, rfl, b2', Lib.hid (own_nil _ _ _ _), hbw2'⟩
    case round =>
      rename World => wo
      obtain ⟨n, n3, a3, c3, hn, hn3, rfl, rfl, hbk, Ob, hbel⟩ := hrel
      by_cases hlt : n < N
      · obtain ⟨k0, k1, k2, k3⟩ := hcs'.out wo hbk.out
        have HUn := HU'.out wo hbel.out n (by omega); have huln := hul'.out n; have husn := hus'.out n; obtain ⟨L, hL⟩ : ∃ L, U n = L := ⟨_, rfl⟩; rw [hL] at HUn huln husn; have HUn' := Lib.hid HUn; have hL' := Lib.hid hL; have husn' := Lib.hid husn; clear HUn hL husn
        go_wp2_with fail
        refine HUn'.out.mono ?_; rintro e w3 ⟨a5, m5, c5, rfl, hb3, ho3⟩; have hbk3 := hbk.out.late hb3; have Ob3 := own_later Ob.out hb3; have hbw3 := hbel.out.trans (hb3.mono hbel.out.size); have hs5 := (Sl.of_own ho3).1
        have hlL : L.length = m5 := by
          have h1 := hs5.len; rw [placesC_len] at h1; omega
        have hm5 : m5 ≤ 64 := by omega
        have hwo : w.heap.size + 1 ≤ w3.heap.size := hbk3.lt; clear k0 k1 k2 k3 hb3 hs5; have hbk3' := Lib.hid hbk3; have Ob3' := Lib.hid Ob3; have hbw3' := Lib.hid hbw3; have ho3' := Lib.hid ho3; have hlL' := Lib.hid hlL; have hwo' := Lib.hid hwo; clear hbk3 Ob3 hbw3 ho3 hlL hwo
        go_wp2
        go_loopw [3, 6, 22] (fun ov _ xv wr => ∃ (j : Nat) (a6 : Option Addr) (c6 : Nat), j ≤ m5 ∧ xv = .int .i64 j ∧ ov = .slice a6 (n3 + 2 * j) c6 ∧ Hid (Blk wr w.heap.size 24 #[.int .i64 a, .int .i64 d, .slice pa pn pc, .int .i64 iv]) ∧ Hid (wr.ownsRow (w.heap.size + 1) 3 1 (.slice a6 (n3 + 2 * j) c6) (n3 + 2 * j) (ints .i64 (placesI (unitsS a ps n ++ L.take j)))) ∧ Hid (wr.ownsRow wo.heap.size 142 2 (.slice a5 m5 c5) m5 (placesC L)) ∧ Hid (Below w.heap.size w wr)) (fun _ _ xv _ => m5 - (intOf xv).toNat)
        case atStart => exact ⟨0, a3, c3, by omega, rfl, rfl, hbk3', Lib.hid (by simpa using Ob3'.out), ho3', hbw3'⟩
        case round =>
          obtain ⟨j, a6, c6, hj, rfl, rfl, hbk4, O4, P4, hbel4⟩ := hrel
          by_cases hjt : j < m5
          · obtain ⟨y, hy⟩ : ∃ y, L[j]? = some y := ⟨_, List.getElem?_eq_getElem (by rw [hlL'.out]; exact hjt)⟩
            obtain ⟨bb, o, rfl, hbb, f0, f1⟩ := place_elem (Sl.of_own P4.out).1 hy; have hsn := placesI_snoc hy; obtain ⟨y0, y1⟩ := y; simp only at f0 f1 hsn; have hal := (Below.refl wr.heap.size wr).alloc (Nat.le_refl _) (.cells #[.int .i64 y0, .int .i64 y1] 142); have bq := Blk.new wr 142 #[.int .i64 y0, .int .i64 y1]; obtain ⟨x, hx⟩ : ∃ X, wr.alloc (.cells #[.int .i64 y0, .int .i64 y1] 142) = X := ⟨_, rfl⟩; rw [hx] at hal bq; have q0 : x.cell? ⟨wr.heap.size, 0, none⟩ = some (.int .i64 y0) := bq.cell rfl; have q1 : x.cell? ⟨wr.heap.size, 1, none⟩ = some (.int .i64 y1) := bq.cell rfl; have hal2 := hal.trans (((Below.refl x.heap.size x).alloc (Nat.le_refl _) (.cells #[.int .i64 y0, .int .i64 y1] 3)).mono hal.size); have b5 := hbk4.out.late hal2; have o5 := own_later O4.out hal2; have p5 := own_later P4.out hal2; have d5 := hbel4.out.trans (hal2.mono hbel4.out.size); have s5 := Sl.new x 3 1 2 #[.int .i64 y0, .int .i64 y1] (0, 0) (by decide) rfl
            have hrow : ints .i64 (placesI (unitsS a ps n ++ L.take j)) ++ [.int .i64 (y0 : Int), .int .i64 (y1 : Int)] = ints .i64 (placesI (unitsS a ps n ++ L.take (j + 1))) := by
              rw [placesI_app, placesI_app, hsn, ← List.append_assoc, ints_append (y := [_, _])]; rfl
            have hsz : w.heap.size + 1 ≤ (x.alloc (.cells #[.int .i64 y0, .int .i64 y1] 3)).heap.size := Nat.lt_of_lt_of_le hbk4.out.lt hal2.size; clear hal hal2 bq; have hy' := Lib.hid hy; have hx' := Lib.hid hx; have b5' := Lib.hid b5; have o5' := Lib.hid o5; have p5' := Lib.hid p5; have d5' := Lib.hid d5; have s5' := Lib.hid s5; have hrow' := Lib.hid hrow; have hsz' := Lib.hid hsz; have hsn' := Lib.hid hsn; clear hy hx b5 o5 p5 d5 s5 hrow hsz hsn
            go_upto_region 10 with fail
            rw [hx'.out]
            go_wp2_with (at_builtin; refine wpList_app2 rfl _ _ 35 rfl (w.heap.size + 1) 3 i1 _ 1 8 Try.underlying35 hi hz0 hz1 hz2 rfl (by decide) _ (n3 + 2 * j) _ rfl o5'.out ⟨x.heap.size, 0, none⟩ 2 2 [.int .i64 y0, .int .i64 y1] rfl s5'.out (by simp [Value.oneCell']) (by omega) (by decide) hsz'.out ?_; intro a7 c7 w7 ho7 hg7 hn7; have g7 : Mo (fun j' => (Value.slice a6 (n3 + 2 * j) c6).ownBlock = some j') _ w7 := Mo.of_grown hg7 (fun _ e => e); have B7 := Lib.hid (b5'.out.mo g7 (own_neB o5'.out b5'.out (by decide))); have P7 := Lib.hid (p5'.out.kept hg7 (own_apart p5'.out o5'.out (by decide))); have Hd7 := Lib.hid (d5'.out.trans (Mo.below (S := fun j' => j' ≥ w.heap.size + 1 ∧ True) (Mo.of_grown hg7 (fun k e => ⟨(o5'.out.lt k e).1, trivial⟩)) d5'.out.size (fun k hk h => by omega))); have Ho7 := Lib.hid ho7; clear ho7 hg7 hn7 g7)
            go_roundw
            case rel => exact ⟨j + 1, a7, c7, by omega, by go_num, by rw [show n3 + 2 * (j + 1) = n3 + 2 * j + 2 by omega], B7, Lib.hid (by rw [← hrow'.out, show n3 + 2 * (j + 1) = n3 + 2 * j + 2 by omega]; exact Ho7.out), P7, Hd7⟩
            case measure => simp [intOf]; omega
          · have hjk : j = m5 := by omega
            subst hjk; have O5 := O4.out; rw [List.take_of_length_le (Nat.le_of_eq hlL'.out), ← husn'.out] at O5; have O5' := Lib.hid O5; clear O5
            go_wp2
            go_roundw
            case rel => exact ⟨n + 1, n3 + 2 * j, a6, c6, by omega, by omega, by go_num, rfl, hbk4, O5', hbel4⟩
            case measure => simp [intOf]; omega
      · have hkn : n = N := by omega
        subst hkn
        go_wp2
        go_ret
        exact ⟨a3, n3, c3, rfl, hbel.out, own_mono Ob.out (Nat.le_succ _)⟩
end Go.Proofs.Ytpjopeojeglogaa

namespace Go.Proofs.Ytpjopeojeglogaa
open Go.RowKit Tt
set_option linter.unusedVariables false
set_option linter.unusedSimpArgs false

/-- one plane's blocks, with the place of their row -/
abbrev BpM := List (List Int) × Option Addr × Nat × Nat
def bpV (b : BpM) : Value := .slice b.2.1 b.2.2.1 b.2.2.2
structure BpOk (w : World) (b : BpM) : Prop where
  sl : Sl w b.2.1 b.2.2.1 b.2.2.2 64 ((b.1.map (ints .i64)).flatten)
  len : ∀ x ∈ b.1, x.length = 64
  wf : ∀ x ∈ b.1, ∀ y ∈ x, (Lit.int .i64 y).wf = true
theorem BpOk.mono {w w' : World} {b : BpM} (h : BpOk w b) (hb : Below w.heap.size w w') : BpOk w' b := ⟨h.sl.mono hb, h.len, h.wf⟩
theorem BpOk.ilen {w : World} {b : BpM} (h : BpOk w b) : b.1.length = b.2.2.1 := by
  have h1 := h.sl.len; rw [flat_len (ints .i64) 64 b.1 (fun x hx => by rw [ints_len]; exact h.len x hx)] at h1; exact Nat.eq_of_mul_eq_mul_right (by omega) h1
structure BpsR (w : World) (a : Option Addr) (n c : Nat) (bs : List BpM) : Prop where
  sl : Sl w a n c 1 (bs.map bpV)
  ok : ∀ b ∈ bs, BpOk w b
theorem BpsR.mono {w w' : World} {a : Option Addr} {n c : Nat} {bs : List BpM} (h : BpsR w a n c bs) (hb : Below w.heap.size w w') : BpsR w' a n c bs := ⟨h.sl.mono hb, fun b hx => (h.ok b hx).mono hb⟩
theorem BpsR.ilen {w : World} {a : Option Addr} {n c : Nat} {bs : List BpM} (h : BpsR w a n c bs) : bs.length = n := by
  have h1 := h.sl.len; rw [List.length_map] at h1; omega
theorem BpsR.elem {w : World} {a : Option Addr} {n c : Nat} {bs : List BpM} (h : BpsR w a n c bs) {k : Nat} {b : BpM} (hb : bs[k]? = some b) :
    ∃ g o, a = some ⟨g, o, none⟩ ∧ g < w.heap.size ∧ w.cell? ⟨g, o + k, none⟩ = some (bpV b) := by
  have hk : k < n := by rw [← h.ilen]; exact (List.getElem?_eq_some_iff.1 hb).1
  obtain ⟨g, o, e, hg, _, hc⟩ := h.sl.elem hk
  have := hc 0 (bpV b) (by
    rw [List.getElem?_take_of_lt (by omega), List.getElem?_drop, Nat.mul_one, Nat.add_zero, List.getElem?_map, hb]; rfl)
  rw [Nat.mul_one, Nat.add_zero] at this; exact ⟨g, o, e, hg, this⟩
/-- are there as many blocks as there should be? -/
def wholeS (s : ScT) (bs : List (List (List Int))) : Bool := mayS s && decide (bs.length = s.ps.length) && (List.range s.ps.length).all fun i => decide (((bs.getD i []).length : Int) = s.ax * (s.ps.getD i (0, 0, (([], []), none, 0, 0), (([], []), none, 0, 0))).1 * s.dn * (s.ps.getD i (0, 0, (([], []), none, 0, 0), (([], []), none, 0, 0))).2.1)
theorem wholeS_bad {s : ScT} {bs : List (List (List Int))} {i : Nat} {p : PtM} {b : List (List Int)} (hp : s.ps[i]? = some p) (hb : bs[i]? = some b) (h : ¬ (b.length : Int) = s.ax * p.1 * s.dn * p.2.1) : wholeS s bs = false := by
  unfold wholeS; have hi := (List.getElem?_eq_some_iff.1 hp).1
  have : ((List.range s.ps.length).all fun i => decide (((bs.getD i []).length : Int) = s.ax * (s.ps.getD i (0, 0, (([], []), none, 0, 0), (([], []), none, 0, 0))).1 * s.dn * (s.ps.getD i (0, 0, (([], []), none, 0, 0), (([], []), none, 0, 0))).2.1)) = false := by
    refine List.all_eq_false.2 ⟨i, List.mem_range.2 hi, ?_⟩; rw [List.getD_eq_getElem?_getD, List.getD_eq_getElem?_getD, hp, hb]
    simpa using h
  rw [this, Bool.and_false]
theorem wholeS_ok {s : ScT} {bs : List (List (List Int))} (hm : mayS s = true) (hl : bs.length = s.ps.length) (h : ∀ (i : Nat) p b, s.ps[i]? = some p → bs[i]? = some b → (b.length : Int) = s.ax * p.1 * s.dn * p.2.1) : wholeS s bs = true := by
  unfold wholeS; rw [hm, decide_eq_true hl, Bool.true_and, Bool.true_and, List.all_eq_true]; intro i hi; have hi := List.mem_range.1 hi; have e1 : s.ps[i]? = some s.ps[i] := List.getElem?_eq_getElem hi; have e2 : bs[i]? = some bs[i] := List.getElem?_eq_getElem (by omega); rw [List.getD_eq_getElem?_getD, List.getD_eq_getElem?_getD, e1, e2]; exact decide_eq_true (h i _ _ e1 e2)
theorem wholeS_len {s : ScT} {bs : List (List (List Int))} (hl : ¬ bs.length = s.ps.length) : wholeS s bs = false := by
  unfold wholeS; rw [decide_eq_false hl, Bool.and_false, Bool.false_and]
theorem wholeS_may {s : ScT} {bs : List (List (List Int))} (hm : mayS s = false) : wholeS s bs = false := by
  unfold wholeS; rw [hm]; rfl
theorem whole_steps {a h d v : Nat} (ha : a ≤ 512) (hd : d ≤ 512) (hh : h ≤ 4) (hv : v ≤ 4) :
    ∃ x y z : Nat, z ≤ 4194304 ∧ (z : Int) = (a : Int) * h * d * v ∧ IntKind.i64.wrap ((a : Int) * h) = x ∧ IntKind.i64.wrap ((x : Int) * d) = y ∧ IntKind.i64.wrap ((y : Int) * v) = z := by
  have b1 : a * h ≤ 512 * 4 := Nat.mul_le_mul ha hh; have b2 : a * h * d ≤ 512 * 4 * 512 := Nat.mul_le_mul b1 hd; have b3 : a * h * d * v ≤ 512 * 4 * 512 * 4 := Nat.mul_le_mul b2 hv; refine ⟨a * h, a * h * d, a * h * d * v, b3, by simp only [Int.natCast_mul], ?_, ?_, ?_⟩
  · rw [← Int.natCast_mul]; exact wrapN (by omega)
  · rw [← Int.natCast_mul]; exact wrapN (by omega)
  · rw [← Int.natCast_mul]; exact wrapN (by omega)
def resS (iv : Int) (n : Nat) : Bool := decide (0 < iv ∧ 0 < n ∧ n % iv.toNat = 0)
set_option maxRecDepth 100000 in
set_option maxHeartbeats 2000000 in
theorem restarts_any (ax dn iv : Int) (pa : Option Addr) (pn pc n : Nat) (w : World) (h0 : 0 ≤ iv) (h1 : iv ≤ 65535) (hn : n ≤ 262144) :
    Calls Try.prog 102 #[.agg #[.int .i64 ax, .int .i64 dn, .slice pa pn pc, .int .i64 iv], .int .i64 n] w fun e w' => e = .returned (.bool (resS iv n)) ∧ Below w.heap.size w w' := by
  obtain ⟨i, rfl⟩ : ∃ i : Nat, iv = i := ⟨iv.toNat, by omega⟩; have b1 := Blk.new w 24 #[.int .i64 ax, .int .i64 dn, .slice pa pn pc, .int .i64 i]; have hb1 := (Below.refl w.heap.size w).alloc (Nat.le_refl _) (.cells #[.int .i64 ax, .int .i64 dn, .slice pa pn pc, .int .i64 i] 24); obtain ⟨W1, hW1⟩ : ∃ W1, w.alloc (.cells #[.int .i64 ax, .int .i64 dn, .slice pa pn pc, .int .i64 i] 24) = W1 := ⟨_, rfl⟩; rw [hW1] at b1 hb1; have k3 : W1.cell? ⟨w.heap.size, 3, none⟩ = some (.int .i64 i) := b1.cell rfl; obtain ⟨Q, hQ⟩ : ∃ Q, resS (i : Int) n = Q := ⟨_, rfl⟩; rw [hQ]; have b1' := Lib.hid b1; have hb1' := Lib.hid hb1; have hW1' := Lib.hid hW1; have hQ' := Lib.hid hQ; clear b1 hb1 hW1 hQ
  go_enter Try.func102, Try.ntmps102
  go_upto_region 1 with fail
  rw [hW1'.out]
  by_cases c1 : (0 : Int) < i
  · by_cases c2 : (0 : Int) < n
    · have e1 : Int.tmod (n : Int) (i : Int) = ((n % i : Nat) : Int) := (Int.ofNat_tmod n i).symm
      obtain ⟨r, hr⟩ : ∃ r, n % i = r := ⟨_, rfl⟩; have hr2 : r ≤ 262144 := by rw [← hr]; exact Nat.le_trans (Nat.mod_le _ _) hn
      rw [hr] at e1; have ine : ¬ (i : Int) = 0 := by omega
      have e2 : IntKind.i64.wrap (r : Int) = r := wrapN (by omega)
      have hres : Q = decide (r = 0) := by
        rw [← hQ'.out]; unfold resS; rw [Int.toNat_natCast, hr]; exact decide_eq_decide.2 ⟨fun h => h.2.2, fun h => ⟨c1, by omega, h⟩⟩
      clear hr
      by_cases c3 : (r : Int) = 0
      · obtain rfl : Q = true := hres.trans (decide_eq_true (by omega))
        clear hres
        go_wp2
        go_ret
        exact ⟨rfl, hb1'.out⟩
      · obtain rfl : Q = false := hres.trans (decide_eq_false (by omega))
        have c4 : ((r : Int) == 0) = false := by simpa using c3
        clear hres
        go_wp2
        go_ret
        exact ⟨rfl, hb1'.out⟩
    · obtain rfl : Q = false := hQ'.out ▸ decide_eq_false (by omega)
      go_wp2
      go_ret
      exact ⟨rfl, hb1'.out⟩
  · obtain rfl : Q = false := hQ'.out ▸ decide_eq_false (by omega)
    go_wp2
    go_ret
    exact ⟨rfl, hb1'.out⟩
set_option maxRecDepth 100000 in
set_option maxHeartbeats 4000000 in
theorem whole_any (s : ScT) (bs : List BpM) (pa ba : Option Addr) (pn pc bn bc : Nat) (w : World) (hs : PtsR w pa pn pc s.ps) (hbs : BpsR w ba bn bc bs) (hbn : bn ≤ 1000000000) (hbl : ∀ b ∈ bs, b.2.2.1 ≤ 1000000000) (hw1 : Wf s.ax) (hw2 : Wf s.dn) (hw3 : Wf s.iv) (hpw : ∀ p ∈ s.ps, Wf p.1 ∧ Wf p.2.1) :
    Calls Try.prog 89 #[.agg #[.int .i64 s.ax, .int .i64 s.dn, .slice pa pn pc, .int .i64 s.iv], .slice ba bn bc] w fun e w' => e = .returned (.bool (wholeS s (bs.map (·.1)))) ∧ Below w.heap.size w w' := by
  have HM := fun W (h : Below w.heap.size w W) => scmay_any s pa pn pc W (hs.mono h) hw1 hw2 hw3 hpw; have hl := hs.ilen; have hbl2 := hbs.ilen; have hbad := @wholeS_bad s (bs.map (·.1)); have hok := @wholeS_ok s (bs.map (·.1)); have hno := @wholeS_may s (bs.map (·.1)); have hln := @wholeS_len s (bs.map (·.1)); have hparts := @mayS_parts s; obtain ⟨R, hR⟩ : ∃ R, mayS s = R := ⟨_, rfl⟩; obtain ⟨Q, hQ⟩ : ∃ Q, wholeS s (bs.map (·.1)) = Q := ⟨_, rfl⟩; rw [hQ] at hok hno hln ⊢; have hbad : ∀ (i : Nat) (p : PtM) (b : List (List Int)), s.ps[i]? = some p → (bs.map (·.1))[i]? = some b → ¬ (b.length : Int) = s.ax * p.1 * s.dn * p.2.1 → Q = false := fun i p b h1 h2 h3 => hQ ▸ hbad h1 h2 h3; rw [hR] at HM hok hno hparts; rw [List.length_map, hbl2, hl] at hok hln; obtain ⟨ax, dn, iv, ps⟩ := s; simp only at hs hl HM hbad hok hparts; have b1 := Blk.new w 24 #[.int .i64 ax, .int .i64 dn, .slice pa pn pc, .int .i64 iv]; have hb1 := (Below.refl w.heap.size w).alloc (Nat.le_refl _) (.cells #[.int .i64 ax, .int .i64 dn, .slice pa pn pc, .int .i64 iv] 24); obtain ⟨W1, hW1⟩ : ∃ W1, w.alloc (.cells #[.int .i64 ax, .int .i64 dn, .slice pa pn pc, .int .i64 iv] 24) = W1 := ⟨_, rfl⟩; rw [hW1] at b1 hb1; have hcs : ∀ W, Blk W w.heap.size 24 #[.int .i64 ax, .int .i64 dn, .slice pa pn pc, .int .i64 iv] → W.cell? ⟨w.heap.size, 0, none⟩ = some (.int .i64 ax) ∧ W.cell? ⟨w.heap.size, 1, none⟩ = some (.int .i64 dn) ∧ W.cell? ⟨w.heap.size, 2, none⟩ = some (.slice pa pn pc) ∧ W.cell? ⟨w.heap.size, 3, none⟩ = some (.int .i64 iv) := fun W b => ⟨b.cell rfl, b.cell rfl, b.cell rfl, b.cell rfl⟩; obtain ⟨k0, k1, k2, k3⟩ := hcs W1 b1; have hs' := Lib.hid hs; have hbs' := Lib.hid hbs; have b1' := Lib.hid b1; have hb1' := Lib.hid hb1; have hW1' := Lib.hid hW1; have hpw' := Lib.hid hpw; have hR' := Lib.hid hR; have HM' := Lib.hid HM; have hw1' := Lib.hid hw1; have hw2' := Lib.hid hw2; have hw3' := Lib.hid hw3; have hl' := Lib.hid hl; have hbl' := Lib.hid hbl; have hbl2' := Lib.hid hbl2; have hbad' := Lib.hid hbad; have hok' := Lib.hid hok; have hno' := Lib.hid hno; have hln' := Lib.hid hln; have hparts' := Lib.hid hparts; have hQ' := Lib.hid hQ; have hcs' := Lib.hid hcs; clear hs hbs b1 hb1 hW1 hpw hR HM hw1 hw2 hw3 hl hbl hbl2 hbad hok hno hln hparts hQ hcs
  go_enter Try.func89, Try.ntmps89
  go_upto_region 1 with fail
  rw [hW1'.out]
  go_wp2_with fail
  refine (HM'.out _ hb1'.out).mono ?_; rintro e w2 ⟨rfl, hb2⟩; have hbw2 := hb1'.out.trans (hb2.mono hb1'.out.size); have b2 := b1'.out.late hb2; clear hb2 k0 k1 k2 k3; obtain ⟨k0, k1, k2, k3⟩ := hcs'.out w2 b2; clear k0 k1 k3
  cases R with
  | false =>
    obtain rfl : Q = false := hno'.out rfl; have hbw2' := Lib.hid hbw2; have b2' := Lib.hid b2; clear hbw2 b2
    go_wp2
    go_ret
    exact ⟨rfl, hbw2'.out⟩
  | true =>
    obtain ⟨htop, hpts, hsum⟩ := hparts'.out rfl
    by_cases hq : (bn : Int) = pn
    · have hbp : bn = pn := by omega
      subst hbp; obtain ⟨a, rfl⟩ : ∃ a : Nat, ax = a := ⟨ax.toNat, by omega⟩; obtain ⟨d, rfl⟩ : ∃ a : Nat, dn = a := ⟨dn.toNat, by omega⟩; have ha : a ≤ 512 := by omega
      have hd : d ≤ 512 := by omega
      have hok2 := hok'.out rfl rfl; clear hq; have hbw2' := Lib.hid hbw2; have b2' := Lib.hid b2; have hpts' := Lib.hid hpts; have hsum' := Lib.hid hsum; have htop' := Lib.hid htop; have hok2' := Lib.hid hok2; have ha' := Lib.hid ha; have hd' := Lib.hid hd; clear hbw2 b2 hpts hsum htop hok2 ha hd
      go_wp2
      clear k2
      go_loopw [5, 6, 21] (fun _ _ xv wr => ∃ k : Nat, k ≤ bn ∧ xv = .int .i64 k ∧ Hid (∀ (j : Nat) (p : PtM) (b : List (List Int)), j < k → ps[j]? = some p → (bs.map (·.1))[j]? = some b → (b.length : Int) = a * p.1 * d * p.2.1) ∧ Hid (Blk wr w.heap.size 24 #[.int .i64 a, .int .i64 d, .slice pa bn pc, .int .i64 iv]) ∧ Hid (Below w.heap.size w wr)) (fun _ _ xv _ => bn - (intOf xv).toNat)
      case atStart => exact ⟨0, by omega, rfl, Lib.hid (fun j p b h => by omega), b2', hbw2'⟩
      case round =>
        obtain ⟨k, hk, rfl, hall, hbk, hbel⟩ := hrel
        by_cases hlt : k < bn
        · obtain ⟨p, hp⟩ : ∃ p, ps[k]? = some p := ⟨_, List.getElem?_eq_getElem (by rw [hl'.out]; exact hlt)⟩
          obtain ⟨bl, hbl3⟩ : ∃ b, bs[k]? = some b := ⟨_, List.getElem?_eq_getElem (by rw [hbl2'.out]; exact hlt)⟩; obtain ⟨bb, o, rfl, hbb, f⟩ := (hs'.out.mono hbel.out).elem hp; obtain ⟨gb, ob, rfl, hgb, fb⟩ := (hbs'.out.mono hbel.out).elem hbl3; have hbok := hbs'.out.ok bl (List.mem_of_getElem? hbl3); have hpk := (hs'.out.ok p (List.mem_of_getElem? hp)).mono hbel.out; have hpm := mayPt_bd (hpts'.out k p hp); have hbdl := hbl'.out bl (List.mem_of_getElem? hbl3); have hbad3 := fun h => hbad'.out k p bl.1 hp (by rw [List.getElem?_map, hbl3]; rfl) h; have hil := hbok.ilen
          have hall2 : (bl.1.length : Int) = a * p.1 * d * p.2.1 → ∀ (j : Nat) (q : PtM) (b : List (List Int)), j < k + 1 → ps[j]? = some q → (bs.map (·.1))[j]? = some b → (b.length : Int) = a * q.1 * d * q.2.1 := fun he j q b hj hq hb => by
            rcases Nat.lt_or_ge j k with h | h
            · exact hall.out j q b h hq hb
            · obtain rfl : j = k := by omega
              rw [hp] at hq; injection hq with hq; rw [List.getElem?_map, hbl3] at hb; injection hb with hb; rw [← hq, ← hb]; exact he
          rw [hil] at hbad3 hall2; obtain ⟨x, y, hdc, hac⟩ := p; obtain ⟨bl, ta, tn, tc⟩ := bl; simp only at hpm hbad3 hall2 hbdl; obtain ⟨h, rfl⟩ : ∃ h : Nat, x = h := ⟨x.toNat, by omega⟩; obtain ⟨v, rfl⟩ : ∃ h : Nat, y = h := ⟨y.toNat, by omega⟩; obtain ⟨x1, x2, z, hz, hze, e1, e2, e3⟩ := whole_steps (h := h) (v := v) ha'.out hd'.out (by omega) (by omega); rw [← hze] at hbad3 hall2; clear hpm hze; unfold bpV at fb; obtain ⟨B, hB⟩ : ∃ B, (pC ((h : Int), (v : Int), hdc, hac)).toArray = B := ⟨_, rfl⟩; have hcl := pC_len hpk; have hone := pC_one (p := ((h : Int), (v : Int), hdc, hac)); have hB36 : B.size = 36 := by rw [← hB]; simpa using hcl
          rw [hB] at hone; obtain ⟨W2, hW2⟩ : ∃ W2, wr.alloc (.cells B 47) = W2 := ⟨_, rfl⟩; have hal := (Below.refl wr.heap.size wr).alloc (Nat.le_refl _) (.cells B 47); have hqb : Blk W2 wr.heap.size 47 B := by rw [← hW2]; exact Blk.new wr 47 B
          rw [hW2] at hal; have hbw := hbel.out.trans (hal.mono hbel.out.size); have hfields := fun W (b : Blk W wr.heap.size 47 B) => pB_cells (p := ((h : Int), (v : Int), hdc, hac)) hpk.dc.len (hB ▸ b); have hbk2 := hbk.out.late hal; have fb2 : W2.cell? ⟨gb, ob + k, none⟩ = some (.slice ta tn tc) := (hal.cell (p := ⟨gb, ob + k, none⟩) hgb).trans fb; have hgb2 : gb < W2.heap.size := Nat.lt_of_lt_of_le hgb hal.size; obtain ⟨Ty, ff, hnn, hbelf, hsurj⟩ := later_worlds W2; have HS := Lib.hid (hsurj W2.drew ((Below.refl W2.heap.size W2).drew)); have y0 : ∀ s, (ff s).cell? ⟨w.heap.size, 0, none⟩ = some (.int .i64 a) := fun s => (hcs'.out _ (hbk2.late (hbelf s))).1; have y1 : ∀ s, (ff s).cell? ⟨w.heap.size, 1, none⟩ = some (.int .i64 d) := fun s => (hcs'.out _ (hbk2.late (hbelf s))).2.1; have y2 : ∀ s, (ff s).cell? ⟨wr.heap.size, 0, none⟩ = some (.int .i64 (h : Int)) := fun s => (hfields _ (hqb.late (hbelf s))).1; have y3 : ∀ s, (ff s).cell? ⟨wr.heap.size, 1, none⟩ = some (.int .i64 (v : Int)) := fun s => (hfields _ (hqb.late (hbelf s))).2.1; have y4 : ∀ s, (ff s).cell? ⟨gb, ob + k, none⟩ = some (.slice ta tn tc) := fun s => ((hbelf s).cell (p := ⟨gb, ob + k, none⟩) hgb2).trans fb2; clear hfields fb fb2; have f' := Lib.hid f; have hpk' := Lib.hid hpk; have hB' := Lib.hid hB; have hcl' := Lib.hid hcl; have hp' := Lib.hid hp; have hone' := Lib.hid hone; have hB36' := Lib.hid hB36; have hal' := Lib.hid hal; have hqb' := Lib.hid hqb; have hW2' := Lib.hid hW2; have hbw' := Lib.hid hbw; have hbk2' := Lib.hid hbk2; have hbl3' := Lib.hid hbl3; have hbok' := Lib.hid hbok; have hbad3' := Lib.hid hbad3; have hil' := Lib.hid hil; have hall2' := Lib.hid hall2; have hgb2' := Lib.hid hgb2; have hbelf' := Lib.hid hbelf; have hsurj' := Lib.hid hsurj; clear f hpk hB hcl hp hone hB36 hal hqb hW2 hbw hbk2 hbl3 hbok hbad3 hil hall2 hgb2 hbelf hsurj
          go_upto_region 6 with (first
            | (refine wpList_load_at rfl 47 (.tmp 24) rfl bb (o + k * 36) rfl (pC ((h : Int), (v : Int), hdc, hac)) B hB'.out _ f'.out Try.underlying47 rfl 36 infoP hcl'.out ?_)
            | (refine wpList_store_row rfl 47 (.tmp 6) (.tmp 25) rfl wr.heap.size B rfl rfl 47 _ (heap_new _ _) (by rw [hB36'.out]; exact infoP) (by rw [hB36'.out]; rfl) hone'.out ?_))
          rw [setRow_alloc, hW2'.out]; refine wp_quiet_in ff (by kernel_rfl) (by kernel_rfl) HS.out ?_
          try simp only [Act.put, List.setIfInBounds_toArray, List.set_cons_succ, List.set_cons_zero]
          iterate 17 (go_big_quiet_step (fail))
          refine wpQuiet_nil ?_; clear y0 y1 y2 y3 y4; intro u; have hdr := hbelf'.out u; have hbk5 := hbk2'.out.late hdr; have hbw5 := hbw'.out.trans (hdr.mono hbw'.out.size); obtain ⟨x5, hx5⟩ : ∃ X, ff u = X := ⟨_, rfl⟩; rw [hx5] at hbk5 hbw5 ⊢; clear hdr hx5
          by_cases he : (tn : Int) = z
          · have hall5 := hall2'.out he
            have hbk5' := Lib.hid hbk5; have hbw5' := Lib.hid hbw5; have hall5' := Lib.hid hall5; clear hbk5 hbw5 hall5
            go_wp2
            go_roundw
            case rel => exact ⟨k + 1, by omega, by go_num, hall5', hbk5', hbw5'⟩
            case measure => simp [intOf]; omega
          · obtain rfl : Q = false := hbad3'.out he
            have hbk5' := Lib.hid hbk5; have hbw5' := Lib.hid hbw5; clear hbk5 hbw5
            go_wp2
            go_ret
            exact ⟨rfl, hbw5'.out⟩
        · have hkn : k = bn := by omega
          subst hkn; obtain rfl : Q = true := hok2'.out (fun i p b h1 h2 => hall.out i p b (by rw [← hl'.out]; exact (List.getElem?_eq_some_iff.1 h1).1) h1 h2)
          go_wp2
          go_ret
          exact ⟨rfl, hbel.out⟩
    · obtain rfl : Q = false := hln'.out (by omega)
      have hbw2' := Lib.hid hbw2; have b2' := Lib.hid b2; clear hbw2 b2
      go_wp2
      go_ret
      exact ⟨rfl, hbw2'.out⟩
end Go.Proofs.Ytpjopeojeglogaa
