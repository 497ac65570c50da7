/- Chapter 12: the order of a scan's blocks: the program. -/
import Derived.Test.YtpjopeojeglogaaCs15
namespace Go.Proofs.Ytpjopeojeglogaa
open Go.RowKit Tt
set_option linter.unusedVariables false
set_option linter.unusedSimpArgs false

def placesI (l : List (Nat × Nat)) : List Int := l.flatMap fun x => [(x.1 : Int), (x.2 : Int)]
theorem placesI_app (l m : List (Nat × Nat)) : placesI (l ++ m) = placesI l ++ placesI m := by unfold placesI; rw [List.flatMap_append]
theorem placesI_snoc {l : List (Nat × Nat)} {j : Nat} {x : Nat × Nat} (h : l[j]? = some x) : placesI (l.take (j + 1)) = placesI (l.take j) ++ [(x.1 : Int), (x.2 : Int)] := by
  rw [List.take_add_one, h, Option.toList_some, placesI_app]; rfl
/-- the blocks of the first units -/
def unitsS (a : Nat) (ps : List PtM) (n : Nat) : List (Nat × Nat) := ((List.range n).map (unitS a ps)).flatten
theorem unitsS_snoc (a : Nat) (ps : List PtM) (n : Nat) : unitsS a ps (n + 1) = unitsS a ps n ++ unitS a ps n := by
  unfold unitsS; rw [List.range_succ, List.map_append, List.flatten_append]; simp
def orderS (s : ScT) : List Int := placesI (unitsS s.ax.toNat s.ps (s.ax * s.dn).toNat)
theorem placesC_len (l : List (Nat × Nat)) : (placesC l).length = l.length * 2 := flat_len placeC 2 l (fun x _ => rfl)
/-- an element of a row of places -/
theorem place_elem {w : World} {a : Option Addr} {n c : Nat} {l : List (Nat × Nat)} (hs : Sl w a n c 2 (placesC l)) {j : Nat} {x : Nat × Nat} (hx : l[j]? = some x) :
    ∃ b o, a = some ⟨b, o, none⟩ ∧ b < w.heap.size ∧ w.cell? ⟨b, o + j * 2, none⟩ = some (.int .i64 x.1) ∧ w.cell? ⟨b, o + j * 2 + 1, none⟩ = some (.int .i64 x.2) := by
  have hl : l.length = n := by
    have h1 := hs.len; rw [placesC_len] at h1; omega
  have hj : j < n := by rw [← hl]; exact (List.getElem?_eq_some_iff.1 hx).1
  obtain ⟨b, o, e, hb, _, hc⟩ := hs.elem hj; unfold placesC at hc; rw [flat_elem placeC 2 l (fun q hq => rfl) j x hx] at hc; exact ⟨b, o, e, hb, hc 0 _ rfl, hc 1 _ rfl⟩
theorem unitS_len {a : Nat} {ps : List PtM} (hp : ∀ (k : Nat) p, ps[k]? = some p → mayPt p = true) (hl : ps.length ≤ 4) (n : Nat) : (unitS a ps n).length ≤ 64 := by
  have : ∀ k, k ≤ ps.length → (unitS a (ps.take k) n).length ≤ 16 * k := by
    intro k
    induction k with
    | zero => intro _; simp [unitS]
    | succ k ih =>
      intro hk; have hx : ps[k]? = some ps[k] := List.getElem?_eq_getElem (by omega); have hm := mayPt_bd (hp k _ hx); have h2 : ps[k].1.toNat * ps[k].2.1.toNat ≤ 4 * 4 := Nat.mul_le_mul (by omega) (by omega); rw [unitS_snoc hx, List.length_append]; have h3 : (unitP a n k ps[k]).length = ps[k].1.toNat * ps[k].2.1.toNat := by unfold unitP; rw [List.length_map, List.length_range]
      have := ih (by omega)
      omega
  have h := this ps.length (Nat.le_refl _); rw [List.take_length] at h
  omega
set_option maxRecDepth 100000 in
set_option maxHeartbeats 4000000 in
theorem scorder_any (s : ScT) (pa : Option Addr) (pn pc : Nat) (w : World) (hs : PtsR w pa pn pc s.ps) (hw1 : Wf s.ax) (hw2 : Wf s.dn) (hw3 : Wf s.iv) (hpw : ∀ p ∈ s.ps, Wf p.1 ∧ Wf p.2.1) :
    Calls Try.prog 24 #[.agg #[.int .i64 s.ax, .int .i64 s.dn, .slice pa pn pc, .int .i64 s.iv]] w fun e w' => ∃ a n c, e = .returned (.slice a n c) ∧ Below w.heap.size w w' ∧ w'.ownsRow w.heap.size 3 1 (.slice a n c) n (ints .i64 (if mayS s then orderS s else [])) := by
  obtain ⟨i1, hi, hz0, hz1, hz2⟩ := info_parts infoI; have HM := fun W (h : Below w.heap.size w W) => scmay_any s pa pn pc W (hs.mono h) hw1 hw2 hw3 hpw; obtain ⟨R, hR⟩ : ∃ R, mayS s = R := ⟨_, rfl⟩; rw [hR] at HM ⊢
  cases R with
  | false =>
    simp only [Bool.false_eq_true, if_false]; obtain ⟨ax, dn, iv, ps⟩ := s; have b1 := Blk.new w 24 #[.int .i64 ax, .int .i64 dn, .slice pa pn pc, .int .i64 iv]; have hb1 := (Below.refl w.heap.size w).alloc (Nat.le_refl _) (.cells #[.int .i64 ax, .int .i64 dn, .slice pa pn pc, .int .i64 iv] 24); obtain ⟨W1, hW1⟩ : ∃ W1, w.alloc (.cells #[.int .i64 ax, .int .i64 dn, .slice pa pn pc, .int .i64 iv] 24) = W1 := ⟨_, rfl⟩; rw [hW1] at b1 hb1; have k0 : W1.cell? ⟨w.heap.size, 0, none⟩ = some (.int .i64 ax) := b1.cell rfl; have k1 : W1.cell? ⟨w.heap.size, 1, none⟩ = some (.int .i64 dn) := b1.cell rfl; have k2 : W1.cell? ⟨w.heap.size, 2, none⟩ = some (.slice pa pn pc) := b1.cell rfl; have k3 : W1.cell? ⟨w.heap.size, 3, none⟩ = some (.int .i64 iv) := b1.cell rfl; have hs' := Lib.hid hs; have b1' := Lib.hid b1; have hb1' := Lib.hid hb1; have hW1' := Lib.hid hW1; have hpw' := Lib.hid hpw; have hR' := Lib.hid hR; have HM' := Lib.hid HM; have hw1' := Lib.hid hw1; have hw2' := Lib.hid hw2; have hw3' := Lib.hid hw3; clear hs b1 hb1 hW1 hpw hR HM hw1 hw2 hw3
    go_enter Try.func24, Try.ntmps24
    go_upto_region 1 with fail
    rw [hW1'.out]
    go_wp2_with fail
    refine (HM'.out _ hb1'.out).mono ?_; rintro e w2 ⟨rfl, hb2⟩; have hbw2 := hb1'.out.trans (hb2.mono hb1'.out.size); clear k0 k1 k2 k3 hb2; have hbw2' := Lib.hid hbw2; clear hbw2
    go_wp2
    go_ret
    exact ⟨none, 0, 0, rfl, hbw2'.out, own_nil _ _ _ _⟩
  | true =>
    simp only [if_true]; have HU := fun W (h : Below w.heap.size w W) (m : Nat) (hm : m ≤ 262144) => unit_any s pa pn pc m W (hs.mono h) hR hm; obtain ⟨htop, hpts, hsum⟩ := mayS_parts hR; unfold orderS; obtain ⟨ax, dn, iv, ps⟩ := s; simp only at hs htop hpts HU HM hw1 hw2 hw3 ⊢; obtain ⟨a, rfl⟩ : ∃ a : Nat, ax = a := ⟨ax.toNat, by omega⟩; obtain ⟨d, rfl⟩ : ∃ a : Nat, dn = a := ⟨dn.toNat, by omega⟩; have hul := fun m => unitS_len (a := a) hpts (by omega) m; obtain ⟨U, hU⟩ : ∃ U, unitS a ps = U := ⟨_, rfl⟩; have hus := unitsS_snoc a ps; obtain ⟨N, hN⟩ : ∃ N, a * d = N := ⟨_, rfl⟩; have hN2 : N ≤ 262144 := by rw [← hN]; exact Nat.le_trans (Nat.mul_le_mul (show a ≤ 512 by omega) (show d ≤ 512 by omega)) (by omega)
    have eN : IntKind.i64.wrap ((a : Int) * d) = N := by rw [← Int.natCast_mul, hN]; exact wrapN (by omega)
    have eN2 : ((a : Int) * d).toNat = N := by rw [← Int.natCast_mul, hN]; rfl
    rw [eN2]; rw [Int.toNat_natCast] at HU ⊢; have b1 := Blk.new w 24 #[.int .i64 a, .int .i64 d, .slice pa pn pc, .int .i64 iv]; have hb1 := (Below.refl w.heap.size w).alloc (Nat.le_refl _) (.cells #[.int .i64 a, .int .i64 d, .slice pa pn pc, .int .i64 iv] 24); obtain ⟨W1, hW1⟩ : ∃ W1, w.alloc (.cells #[.int .i64 a, .int .i64 d, .slice pa pn pc, .int .i64 iv] 24) = W1 := ⟨_, rfl⟩; rw [hW1] at b1 hb1; have hcs : ∀ W, Blk W w.heap.size 24 #[.int .i64 a, .int .i64 d, .slice pa pn pc, .int .i64 iv] → W.cell? ⟨w.heap.size, 0, none⟩ = some (.int .i64 a) ∧ W.cell? ⟨w.heap.size, 1, none⟩ = some (.int .i64 d) ∧ W.cell? ⟨w.heap.size, 2, none⟩ = some (.slice pa pn pc) ∧ W.cell? ⟨w.heap.size, 3, none⟩ = some (.int .i64 iv) := fun W b => ⟨b.cell rfl, b.cell rfl, b.cell rfl, b.cell rfl⟩; obtain ⟨k0, k1, k2, k3⟩ := hcs W1 b1; clear eN2 hsum; rw [hU] at HU hul; have hus : ∀ n, unitsS a ps (n + 1) = unitsS a ps n ++ U n := fun n => by rw [hus, hU]
    have hs' := Lib.hid hs; have b1' := Lib.hid b1; have hb1' := Lib.hid hb1; have hW1' := Lib.hid hW1; have hpw' := Lib.hid hpw; have hR' := Lib.hid hR; have HM' := Lib.hid HM; have HU' := Lib.hid HU; have hw1' := Lib.hid hw1; have hw2' := Lib.hid hw2; have hw3' := Lib.hid hw3; have htop' := Lib.hid htop; have hpts' := Lib.hid hpts; have hul' := Lib.hid hul; have hus' := Lib.hid hus; have hU' := Lib.hid hU; have hN' := Lib.hid hN; have hcs' := Lib.hid hcs; clear hs b1 hb1 hW1 hpw hR HM HU hw1 hw2 hw3 htop hpts hul hus hU hN hcs
    go_enter Try.func24, Try.ntmps24
    go_upto_region 1 with fail
    rw [hW1'.out]
    go_wp2_with fail
    refine (HM'.out _ hb1'.out).mono ?_; rintro e w2 ⟨rfl, hb2⟩; have hbw2 := hb1'.out.trans (hb2.mono hb1'.out.size); have b2 := b1'.out.late hb2; obtain ⟨k0, k1, k2, k3⟩ := hcs'.out w2 b2; clear hb2 k2 k3; have hbw2' := Lib.hid hbw2; have b2' := Lib.hid b2; clear hbw2 b2
    go_wp2
    clear k0 k1
    go_loopw [3, 4, 6, 15] (fun ov _ _ xv wr => ∃ (n n3 : Nat) (a3 : Option Addr) (c3 : Nat), n ≤ N ∧ n3 ≤ 128 * n ∧ xv = .int .i64 n ∧ ov = .slice a3 n3 c3 ∧ Hid (Blk wr w.heap.size 24 #[.int .i64 a, .int .i64 d, .slice pa pn pc, .int .i64 iv]) ∧ Hid (wr.ownsRow (w.heap.size + 1) 3 1 (.slice a3 n3 c3) n3 (ints .i64 (placesI (unitsS a ps n)))) ∧ Hid (Below w.heap.size w wr)) (fun _ _ _ xv _ => N - (intOf xv).toNat)
    case atStart => exact ⟨0, 0, none, 0, by omega, by omega, rfl, rfl, b2', Lib.hid (own_nil _ _ _ _), hbw2'⟩
    case round =>
      rename World => wo
      obtain ⟨n, n3, a3, c3, hn, hn3, rfl, rfl, hbk, Ob, hbel⟩ := hrel
      by_cases hlt : n < N
      · obtain ⟨k0, k1, k2, k3⟩ := hcs'.out wo hbk.out
        have HUn := HU'.out wo hbel.out n (by omega); have huln := hul'.out n; have husn := hus'.out n; obtain ⟨L, hL⟩ : ∃ L, U n = L := ⟨_, rfl⟩; rw [hL] at HUn huln husn; have HUn' := Lib.hid HUn; have hL' := Lib.hid hL; have husn' := Lib.hid husn; clear HUn hL husn
        go_wp2_with fail
        refine HUn'.out.mono ?_; rintro e w3 ⟨a5, m5, c5, rfl, hb3, ho3⟩; have hbk3 := hbk.out.late hb3; have Ob3 := own_later Ob.out hb3; have hbw3 := hbel.out.trans (hb3.mono hbel.out.size); have hs5 := (Sl.of_own ho3).1
        have hlL : L.length = m5 := by
          have h1 := hs5.len; rw [placesC_len] at h1; omega
        have hm5 : m5 ≤ 64 := by omega
        have hwo : w.heap.size + 1 ≤ w3.heap.size := hbk3.lt; clear k0 k1 k2 k3 hb3 hs5; have hbk3' := Lib.hid hbk3; have Ob3' := Lib.hid Ob3; have hbw3' := Lib.hid hbw3; have ho3' := Lib.hid ho3; have hlL' := Lib.hid hlL; have hwo' := Lib.hid hwo; clear hbk3 Ob3 hbw3 ho3 hlL hwo
        go_wp2
        go_loopw [3, 6, 22] (fun ov _ xv wr => ∃ (j : Nat) (a6 : Option Addr) (c6 : Nat), j ≤ m5 ∧ xv = .int .i64 j ∧ ov = .slice a6 (n3 + 2 * j) c6 ∧ Hid (Blk wr w.heap.size 24 #[.int .i64 a, .int .i64 d, .slice pa pn pc, .int .i64 iv]) ∧ Hid (wr.ownsRow (w.heap.size + 1) 3 1 (.slice a6 (n3 + 2 * j) c6) (n3 + 2 * j) (ints .i64 (placesI (unitsS a ps n ++ L.take j)))) ∧ Hid (wr.ownsRow wo.heap.size 142 2 (.slice a5 m5 c5) m5 (placesC L)) ∧ Hid (Below w.heap.size w wr)) (fun _ _ xv _ => m5 - (intOf xv).toNat)
        case atStart => exact ⟨0, a3, c3, by omega, rfl, rfl, hbk3', Lib.hid (by simpa using Ob3'.out), ho3', hbw3'⟩
        case round =>
          obtain ⟨j, a6, c6, hj, rfl, rfl, hbk4, O4, P4, hbel4⟩ := hrel
          by_cases hjt : j < m5
          · obtain ⟨y, hy⟩ : ∃ y, L[j]? = some y := ⟨_, List.getElem?_eq_getElem (by rw [hlL'.out]; exact hjt)⟩
            obtain ⟨bb, o, rfl, hbb, f0, f1⟩ := place_elem (Sl.of_own P4.out).1 hy; have hsn := placesI_snoc hy; obtain ⟨y0, y1⟩ := y; simp only at f0 f1 hsn; have hal := (Below.refl wr.heap.size wr).alloc (Nat.le_refl _) (.cells #[.int .i64 y0, .int .i64 y1] 142); have bq := Blk.new wr 142 #[.int .i64 y0, .int .i64 y1]; obtain ⟨x, hx⟩ : ∃ X, wr.alloc (.cells #[.int .i64 y0, .int .i64 y1] 142) = X := ⟨_, rfl⟩; rw [hx] at hal bq; have q0 : x.cell? ⟨wr.heap.size, 0, none⟩ = some (.int .i64 y0) := bq.cell rfl; have q1 : x.cell? ⟨wr.heap.size, 1, none⟩ = some (.int .i64 y1) := bq.cell rfl; have hal2 := hal.trans (((Below.refl x.heap.size x).alloc (Nat.le_refl _) (.cells #[.int .i64 y0, .int .i64 y1] 3)).mono hal.size); have b5 := hbk4.out.late hal2; have o5 := own_later O4.out hal2; have p5 := own_later P4.out hal2; have d5 := hbel4.out.trans (hal2.mono hbel4.out.size); have s5 := Sl.new x 3 1 2 #[.int .i64 y0, .int .i64 y1] (0, 0) (by decide) rfl
            have hrow : ints .i64 (placesI (unitsS a ps n ++ L.take j)) ++ [.int .i64 (y0 : Int), .int .i64 (y1 : Int)] = ints .i64 (placesI (unitsS a ps n ++ L.take (j + 1))) := by
              rw [placesI_app, placesI_app, hsn, ← List.append_assoc, ints_append (y := [_, _])]; rfl
            have hsz : w.heap.size + 1 ≤ (x.alloc (.cells #[.int .i64 y0, .int .i64 y1] 3)).heap.size := Nat.lt_of_lt_of_le hbk4.out.lt hal2.size; clear hal hal2 bq; have hy' := Lib.hid hy; have hx' := Lib.hid hx; have b5' := Lib.hid b5; have o5' := Lib.hid o5; have p5' := Lib.hid p5; have d5' := Lib.hid d5; have s5' := Lib.hid s5; have hrow' := Lib.hid hrow; have hsz' := Lib.hid hsz; have hsn' := Lib.hid hsn; clear hy hx b5 o5 p5 d5 s5 hrow hsz hsn
            go_upto_region 10 with fail
            rw [hx'.out]
            go_wp2_with (at_builtin; refine wpList_app2 rfl _ _ 35 rfl (w.heap.size + 1) 3 i1 _ 1 8 Try.underlying35 hi hz0 hz1 hz2 rfl (by decide) _ (n3 + 2 * j) _ rfl o5'.out ⟨x.heap.size, 0, none⟩ 2 2 [.int .i64 y0, .int .i64 y1] rfl s5'.out (by simp [Value.oneCell']) (by omega) (by decide) hsz'.out ?_; intro a7 c7 w7 ho7 hg7 hn7; have g7 : Mo (fun j' => (Value.slice a6 (n3 + 2 * j) c6).ownBlock = some j') _ w7 := Mo.of_grown hg7 (fun _ e => e); have B7 := Lib.hid (b5'.out.mo g7 (own_neB o5'.out b5'.out (by decide))); have P7 := Lib.hid (p5'.out.kept hg7 (own_apart p5'.out o5'.out (by decide))); have Hd7 := Lib.hid (d5'.out.trans (Mo.below (S := fun j' => j' ≥ w.heap.size + 1 ∧ True) (Mo.of_grown hg7 (fun k e => ⟨(o5'.out.lt k e).1, trivial⟩)) d5'.out.size (fun k hk h => by omega))); have Ho7 := Lib.hid ho7; clear ho7 hg7 hn7 g7)
            go_roundw
            case rel => exact ⟨j + 1, a7, c7, by omega, by go_num, by rw [show n3 + 2 * (j + 1) = n3 + 2 * j + 2 by omega], B7, Lib.hid (by rw [← hrow'.out, show n3 + 2 * (j + 1) = n3 + 2 * j + 2 by omega]; exact Ho7.out), P7, Hd7⟩
            case measure => simp [intOf]; omega
          · have hjk : j = m5 := by omega
            subst hjk; have O5 := O4.out; rw [List.take_of_length_le (Nat.le_of_eq hlL'.out), ← husn'.out] at O5; have O5' := Lib.hid O5; clear O5
            go_wp2
            go_roundw
            case rel => exact ⟨n + 1, n3 + 2 * j, a6, c6, by omega, by omega, by go_num, rfl, hbk4, O5', hbel4⟩
            case measure => simp [intOf]; omega
      · have hkn : n = N := by omega
        subst hkn
        go_wp2
        go_ret
        exact ⟨a3, n3, c3, rfl, hbel.out, own_mono Ob.out (Nat.le_succ _)⟩
end Go.Proofs.Ytpjopeojeglogaa
