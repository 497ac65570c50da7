/- Chapter 12: blocks in memory; whether they are whole; which units restart: the program. | Frames: scans and blocks that came in (chapter 12). -/
import Derived.Test.YtpjopeojeglogaaCs16
import Derived.Test.YtpjopeojeglogaaCs05
namespace Go.Proofs.Ytpjopeojeglogaa
open Go.RowKit Tt
set_option linter.unusedVariables false
set_option linter.unusedSimpArgs false

/-- one plane's blocks, with the place of their row -/
abbrev BpM := List (List Int) × Option Addr × Nat × Nat
def bpV (b : BpM) : Value := .slice b.2.1 b.2.2.1 b.2.2.2
structure BpOk (w : World) (b : BpM) : Prop where
  sl : Sl w b.2.1 b.2.2.1 b.2.2.2 64 ((b.1.map (ints .i64)).flatten)
  len : ∀ x ∈ b.1, x.length = 64
  wf : ∀ x ∈ b.1, ∀ y ∈ x, (Lit.int .i64 y).wf = true
theorem BpOk.mono {w w' : World} {b : BpM} (h : BpOk w b) (hb : Below w.heap.size w w') : BpOk w' b := ⟨h.sl.mono hb, h.len, h.wf⟩
theorem BpOk.ilen {w : World} {b : BpM} (h : BpOk w b) : b.1.length = b.2.2.1 := by
  have h1 := h.sl.len; rw [flat_len (ints .i64) 64 b.1 (fun x hx => by rw [ints_len]; exact h.len x hx)] at h1; exact Nat.eq_of_mul_eq_mul_right (by omega) h1
structure BpsR (w : World) (a : Option Addr) (n c : Nat) (bs : List BpM) : Prop where
  sl : Sl w a n c 1 (bs.map bpV)
  ok : ∀ b ∈ bs, BpOk w b
theorem BpsR.mono {w w' : World} {a : Option Addr} {n c : Nat} {bs : List BpM} (h : BpsR w a n c bs) (hb : Below w.heap.size w w') : BpsR w' a n c bs := ⟨h.sl.mono hb, fun b hx => (h.ok b hx).mono hb⟩
theorem BpsR.ilen {w : World} {a : Option Addr} {n c : Nat} {bs : List BpM} (h : BpsR w a n c bs) : bs.length = n := by
  have h1 := h.sl.len; rw [List.length_map] at h1; omega
theorem BpsR.elem {w : World} {a : Option Addr} {n c : Nat} {bs : List BpM} (h : BpsR w a n c bs) {k : Nat} {b : BpM} (hb : bs[k]? = some b) :
    ∃ g o, a = some ⟨g, o, none⟩ ∧ g < w.heap.size ∧ w.cell? ⟨g, o + k, none⟩ = some (bpV b) := by
  have hk : k < n := by rw [← h.ilen]; exact (List.getElem?_eq_some_iff.1 hb).1
  obtain ⟨g, o, e, hg, _, hc⟩ := h.sl.elem hk
  have := hc 0 (bpV b) (by
    rw [List.getElem?_take_of_lt (by omega), List.getElem?_drop, Nat.mul_one, Nat.add_zero, List.getElem?_map, hb]; rfl)
  rw [Nat.mul_one, Nat.add_zero] at this; exact ⟨g, o, e, hg, this⟩
/-- are there as many blocks as there should be? -/
def wholeS (s : ScT) (bs : List (List (List Int))) : Bool := mayS s && decide (bs.length = s.ps.length) && (List.range s.ps.length).all fun i => decide (((bs.getD i []).length : Int) = s.ax * (s.ps.getD i (0, 0, (([], []), none, 0, 0), (([], []), none, 0, 0))).1 * s.dn * (s.ps.getD i (0, 0, (([], []), none, 0, 0), (([], []), none, 0, 0))).2.1)
theorem wholeS_bad {s : ScT} {bs : List (List (List Int))} {i : Nat} {p : PtM} {b : List (List Int)} (hp : s.ps[i]? = some p) (hb : bs[i]? = some b) (h : ¬ (b.length : Int) = s.ax * p.1 * s.dn * p.2.1) : wholeS s bs = false := by
  unfold wholeS; have hi := (List.getElem?_eq_some_iff.1 hp).1
  have : ((List.range s.ps.length).all fun i => decide (((bs.getD i []).length : Int) = s.ax * (s.ps.getD i (0, 0, (([], []), none, 0, 0), (([], []), none, 0, 0))).1 * s.dn * (s.ps.getD i (0, 0, (([], []), none, 0, 0), (([], []), none, 0, 0))).2.1)) = false := by
    refine List.all_eq_false.2 ⟨i, List.mem_range.2 hi, ?_⟩; rw [List.getD_eq_getElem?_getD, List.getD_eq_getElem?_getD, hp, hb]
    simpa using h
  rw [this, Bool.and_false]
theorem wholeS_ok {s : ScT} {bs : List (List (List Int))} (hm : mayS s = true) (hl : bs.length = s.ps.length) (h : ∀ (i : Nat) p b, s.ps[i]? = some p → bs[i]? = some b → (b.length : Int) = s.ax * p.1 * s.dn * p.2.1) : wholeS s bs = true := by
  unfold wholeS; rw [hm, decide_eq_true hl, Bool.true_and, Bool.true_and, List.all_eq_true]; intro i hi; have hi := List.mem_range.1 hi; have e1 : s.ps[i]? = some s.ps[i] := List.getElem?_eq_getElem hi; have e2 : bs[i]? = some bs[i] := List.getElem?_eq_getElem (by omega); rw [List.getD_eq_getElem?_getD, List.getD_eq_getElem?_getD, e1, e2]; exact decide_eq_true (h i _ _ e1 e2)
theorem wholeS_len {s : ScT} {bs : List (List (List Int))} (hl : ¬ bs.length = s.ps.length) : wholeS s bs = false := by
  unfold wholeS; rw [decide_eq_false hl, Bool.and_false, Bool.false_and]
theorem wholeS_may {s : ScT} {bs : List (List (List Int))} (hm : mayS s = false) : wholeS s bs = false := by
  unfold wholeS; rw [hm]; rfl
theorem whole_steps {a h d v : Nat} (ha : a ≤ 512) (hd : d ≤ 512) (hh : h ≤ 4) (hv : v ≤ 4) :
    ∃ x y z : Nat, z ≤ 4194304 ∧ (z : Int) = (a : Int) * h * d * v ∧ IntKind.i64.wrap ((a : Int) * h) = x ∧ IntKind.i64.wrap ((x : Int) * d) = y ∧ IntKind.i64.wrap ((y : Int) * v) = z := by
  have b1 : a * h ≤ 512 * 4 := Nat.mul_le_mul ha hh; have b2 : a * h * d ≤ 512 * 4 * 512 := Nat.mul_le_mul b1 hd; have b3 : a * h * d * v ≤ 512 * 4 * 512 * 4 := Nat.mul_le_mul b2 hv; refine ⟨a * h, a * h * d, a * h * d * v, b3, by simp only [Int.natCast_mul], ?_, ?_, ?_⟩
  · rw [← Int.natCast_mul]; exact wrapN (by omega)
  · rw [← Int.natCast_mul]; exact wrapN (by omega)
  · rw [← Int.natCast_mul]; exact wrapN (by omega)
def resS (iv : Int) (n : Nat) : Bool := decide (0 < iv ∧ 0 < n ∧ n % iv.toNat = 0)
set_option maxRecDepth 100000 in
set_option maxHeartbeats 2000000 in
theorem restarts_any (ax dn iv : Int) (pa : Option Addr) (pn pc n : Nat) (w : World) (h0 : 0 ≤ iv) (h1 : iv ≤ 65535) (hn : n ≤ 262144) :
    Calls Try.prog 102 #[.agg #[.int .i64 ax, .int .i64 dn, .slice pa pn pc, .int .i64 iv], .int .i64 n] w fun e w' => e = .returned (.bool (resS iv n)) ∧ Below w.heap.size w w' := by
  obtain ⟨i, rfl⟩ : ∃ i : Nat, iv = i := ⟨iv.toNat, by omega⟩; have b1 := Blk.new w 24 #[.int .i64 ax, .int .i64 dn, .slice pa pn pc, .int .i64 i]; have hb1 := (Below.refl w.heap.size w).alloc (Nat.le_refl _) (.cells #[.int .i64 ax, .int .i64 dn, .slice pa pn pc, .int .i64 i] 24); obtain ⟨W1, hW1⟩ : ∃ W1, w.alloc (.cells #[.int .i64 ax, .int .i64 dn, .slice pa pn pc, .int .i64 i] 24) = W1 := ⟨_, rfl⟩; rw [hW1] at b1 hb1; have k3 : W1.cell? ⟨w.heap.size, 3, none⟩ = some (.int .i64 i) := b1.cell rfl; obtain ⟨Q, hQ⟩ : ∃ Q, resS (i : Int) n = Q := ⟨_, rfl⟩; rw [hQ]; have b1' := Lib.hid b1; have hb1' := Lib.hid hb1; have hW1' := Lib.hid hW1; have hQ' := Lib.hid hQ; clear b1 hb1 hW1 hQ
  go_enter Try.func102, Try.ntmps102
  go_upto_region 1 with fail
  rw [hW1'.out]
  by_cases c1 : (0 : Int) < i
  · by_cases c2 : (0 : Int) < n
    · have e1 : Int.tmod (n : Int) (i : Int) = ((n % i : Nat) : Int) := (Int.ofNat_tmod n i).symm
      obtain ⟨r, hr⟩ : ∃ r, n % i = r := ⟨_, rfl⟩; have hr2 : r ≤ 262144 := by rw [← hr]; exact Nat.le_trans (Nat.mod_le _ _) hn
      rw [hr] at e1; have ine : ¬ (i : Int) = 0 := by omega
      have e2 : IntKind.i64.wrap (r : Int) = r := wrapN (by omega)
      have hres : Q = decide (r = 0) := by
        rw [← hQ'.out]; unfold resS; rw [Int.toNat_natCast, hr]; exact decide_eq_decide.2 ⟨fun h => h.2.2, fun h => ⟨c1, by omega, h⟩⟩
      clear hr
      by_cases c3 : (r : Int) = 0
      · obtain rfl : Q = true := hres.trans (decide_eq_true (by omega))
        clear hres
        go_wp2
        go_ret
        exact ⟨rfl, hb1'.out⟩
      · obtain rfl : Q = false := hres.trans (decide_eq_false (by omega))
        have c4 : ((r : Int) == 0) = false := by simpa using c3
        clear hres
        go_wp2
        go_ret
        exact ⟨rfl, hb1'.out⟩
    · obtain rfl : Q = false := hQ'.out ▸ decide_eq_false (by omega)
      go_wp2
      go_ret
      exact ⟨rfl, hb1'.out⟩
  · obtain rfl : Q = false := hQ'.out ▸ decide_eq_false (by omega)
    go_wp2
    go_ret
    exact ⟨rfl, hb1'.out⟩
set_option maxRecDepth 100000 in
set_option maxHeartbeats 4000000 in
theorem whole_any (s : ScT) (bs : List BpM) (pa ba : Option Addr) (pn pc bn bc : Nat) (w : World) (hs : PtsR w pa pn pc s.ps) (hbs : BpsR w ba bn bc bs) (hbn : bn ≤ 1000000000) (hbl : ∀ b ∈ bs, b.2.2.1 ≤ 1000000000) (hw1 : Wf s.ax) (hw2 : Wf s.dn) (hw3 : Wf s.iv) (hpw : ∀ p ∈ s.ps, Wf p.1 ∧ Wf p.2.1) :
    Calls Try.prog 89 #[.agg #[.int .i64 s.ax, .int .i64 s.dn, .slice pa pn pc, .int .i64 s.iv], .slice ba bn bc] w fun e w' => e = .returned (.bool (wholeS s (bs.map (·.1)))) ∧ Below w.heap.size w w' := by
  have HM := fun W (h : Below w.heap.size w W) => scmay_any s pa pn pc W (hs.mono h) hw1 hw2 hw3 hpw; have hl := hs.ilen; have hbl2 := hbs.ilen; have hbad := @wholeS_bad s (bs.map (·.1)); have hok := @wholeS_ok s (bs.map (·.1)); have hno := @wholeS_may s (bs.map (·.1)); have hln := @wholeS_len s (bs.map (·.1)); have hparts := @mayS_parts s; obtain ⟨R, hR⟩ : ∃ R, mayS s = R := ⟨_, rfl⟩; obtain ⟨Q, hQ⟩ : ∃ Q, wholeS s (bs.map (·.1)) = Q := ⟨_, rfl⟩; rw [hQ] at hok hno hln ⊢; have hbad : ∀ (i : Nat) (p : PtM) (b : List (List Int)), s.ps[i]? = some p → (bs.map (·.1))[i]? = some b → ¬ (b.length : Int) = s.ax * p.1 * s.dn * p.2.1 → Q = false := fun i p b h1 h2 h3 => hQ ▸ hbad h1 h2 h3; rw [hR] at HM hok hno hparts; rw [List.length_map, hbl2, hl] at hok hln; obtain ⟨ax, dn, iv, ps⟩ := s; simp only at hs hl HM hbad hok hparts; have b1 := Blk.new w 24 #[.int .i64 ax, .int .i64 dn, .slice pa pn pc, .int .i64 iv]; have hb1 := (Below.refl w.heap.size w).alloc (Nat.le_refl _) (.cells #[.int .i64 ax, .int .i64 dn, .slice pa pn pc, .int .i64 iv] 24); obtain ⟨W1, hW1⟩ : ∃ W1, w.alloc (.cells #[.int .i64 ax, .int .i64 dn, .slice pa pn pc, .int .i64 iv] 24) = W1 := ⟨_, rfl⟩; rw [hW1] at b1 hb1; have hcs : ∀ W, Blk W w.heap.size 24 #[.int .i64 ax, .int .i64 dn, .slice pa pn pc, .int .i64 iv] → W.cell? ⟨w.heap.size, 0, none⟩ = some (.int .i64 ax) ∧ W.cell? ⟨w.heap.size, 1, none⟩ = some (.int .i64 dn) ∧ W.cell? ⟨w.heap.size, 2, none⟩ = some (.slice pa pn pc) ∧ W.cell? ⟨w.heap.size, 3, none⟩ = some (.int .i64 iv) := fun W b => ⟨b.cell rfl, b.cell rfl, b.cell rfl, b.cell rfl⟩; obtain ⟨k0, k1, k2, k3⟩ := hcs W1 b1; have hs' := Lib.hid hs; have hbs' := Lib.hid hbs; have b1' := Lib.hid b1; have hb1' := Lib.hid hb1; have hW1' := Lib.hid hW1; have hpw' := Lib.hid hpw; have hR' := Lib.hid hR; have HM' := Lib.hid HM; have hw1' := Lib.hid hw1; have hw2' := Lib.hid hw2; have hw3' := Lib.hid hw3; have hl' := Lib.hid hl; have hbl' := Lib.hid hbl; have hbl2' := Lib.hid hbl2; have hbad' := Lib.hid hbad; have hok' := Lib.hid hok; have hno' := Lib.hid hno; have hln' := Lib.hid hln; have hparts' := Lib.hid hparts; have hQ' := Lib.hid hQ; have hcs' := Lib.hid hcs; clear hs hbs b1 hb1 hW1 hpw hR HM hw1 hw2 hw3 hl hbl hbl2 hbad hok hno hln hparts hQ hcs
  go_enter Try.func89, Try.ntmps89
  go_upto_region 1 with fail
  rw [hW1'.out]
  go_wp2_with fail
  refine (HM'.out _ hb1'.out).mono ?_; rintro e w2 ⟨rfl, hb2⟩; have hbw2 := hb1'.out.trans (hb2.mono hb1'.out.size); have b2 := b1'.out.late hb2; clear hb2 k0 k1 k2 k3; obtain ⟨k0, k1, k2, k3⟩ := hcs'.out w2 b2; clear k0 k1 k3
  cases R with
  | false =>
    obtain rfl : Q = false := hno'.out rfl; have hbw2' := Lib.hid hbw2; have b2' := Lib.hid b2; clear hbw2 b2
    go_wp2
    go_ret
    exact ⟨rfl, hbw2'.out⟩
  | true =>
    obtain ⟨htop, hpts, hsum⟩ := hparts'.out rfl
    by_cases hq : (bn : Int) = pn
    · have hbp : bn = pn := by omega
      subst hbp; obtain ⟨a, rfl⟩ : ∃ a : Nat, ax = a := ⟨ax.toNat, by omega⟩; obtain ⟨d, rfl⟩ : ∃ a : Nat, dn = a := ⟨dn.toNat, by omega⟩; have ha : a ≤ 512 := by omega
      have hd : d ≤ 512 := by omega
      have hok2 := hok'.out rfl rfl; clear hq; have hbw2' := Lib.hid hbw2; have b2' := Lib.hid b2; have hpts' := Lib.hid hpts; have hsum' := Lib.hid hsum; have htop' := Lib.hid htop; have hok2' := Lib.hid hok2; have ha' := Lib.hid ha; have hd' := Lib.hid hd; clear hbw2 b2 hpts hsum htop hok2 ha hd
      go_wp2
      clear k2
      go_loopw [5, 6, 21] (fun _ _ xv wr => ∃ k : Nat, k ≤ bn ∧ xv = .int .i64 k ∧ Hid (∀ (j : Nat) (p : PtM) (b : List (List Int)), j < k → ps[j]? = some p → (bs.map (·.1))[j]? = some b → (b.length : Int) = a * p.1 * d * p.2.1) ∧ Hid (Blk wr w.heap.size 24 #[.int .i64 a, .int .i64 d, .slice pa bn pc, .int .i64 iv]) ∧ Hid (Below w.heap.size w wr)) (fun _ _ xv _ => bn - (intOf xv).toNat)
      case atStart => exact ⟨0, by omega, rfl, Lib.hid (fun j p b h => by omega), b2', hbw2'⟩
      case round =>
        obtain ⟨k, hk, rfl, hall, hbk, hbel⟩ := hrel
        by_cases hlt : k < bn
        · obtain ⟨p, hp⟩ : ∃ p, ps[k]? = some p := ⟨_, List.getElem?_eq_getElem (by rw [hl'.out]; exact hlt)⟩
          obtain ⟨bl, hbl3⟩ : ∃ b, bs[k]? = some b := ⟨_, List.getElem?_eq_getElem (by rw [hbl2'.out]; exact hlt)⟩; obtain ⟨bb, o, rfl, hbb, f⟩ := (hs'.out.mono hbel.out).elem hp; obtain ⟨gb, ob, rfl, hgb, fb⟩ := (hbs'.out.mono hbel.out).elem hbl3; have hbok := hbs'.out.ok bl (List.mem_of_getElem? hbl3); have hpk := (hs'.out.ok p (List.mem_of_getElem? hp)).mono hbel.out; have hpm := mayPt_bd (hpts'.out k p hp); have hbdl := hbl'.out bl (List.mem_of_getElem? hbl3); have hbad3 := fun h => hbad'.out k p bl.1 hp (by rw [List.getElem?_map, hbl3]; rfl) h; have hil := hbok.ilen
          have hall2 : (bl.1.length : Int) = a * p.1 * d * p.2.1 → ∀ (j : Nat) (q : PtM) (b : List (List Int)), j < k + 1 → ps[j]? = some q → (bs.map (·.1))[j]? = some b → (b.length : Int) = a * q.1 * d * q.2.1 := fun he j q b hj hq hb => by
            rcases Nat.lt_or_ge j k with h | h
            · exact hall.out j q b h hq hb
            · obtain rfl : j = k := by omega
              rw [hp] at hq; injection hq with hq; rw [List.getElem?_map, hbl3] at hb; injection hb with hb; rw [← hq, ← hb]; exact he
          rw [hil] at hbad3 hall2; obtain ⟨x, y, hdc, hac⟩ := p; obtain ⟨bl, ta, tn, tc⟩ := bl; simp only at hpm hbad3 hall2 hbdl; obtain ⟨h, rfl⟩ : ∃ h : Nat, x = h := ⟨x.toNat, by omega⟩; obtain ⟨v, rfl⟩ : ∃ h : Nat, y = h := ⟨y.toNat, by omega⟩; obtain ⟨x1, x2, z, hz, hze, e1, e2, e3⟩ := whole_steps (h := h) (v := v) ha'.out hd'.out (by omega) (by omega); rw [← hze] at hbad3 hall2; clear hpm hze; unfold bpV at fb; obtain ⟨B, hB⟩ : ∃ B, (pC ((h : Int), (v : Int), hdc, hac)).toArray = B := ⟨_, rfl⟩; have hcl := pC_len hpk; have hone := pC_one (p := ((h : Int), (v : Int), hdc, hac)); have hB36 : B.size = 36 := by rw [← hB]; simpa using hcl
          rw [hB] at hone; obtain ⟨W2, hW2⟩ : ∃ W2, wr.alloc (.cells B 47) = W2 := ⟨_, rfl⟩; have hal := (Below.refl wr.heap.size wr).alloc (Nat.le_refl _) (.cells B 47); have hqb : Blk W2 wr.heap.size 47 B := by rw [← hW2]; exact Blk.new wr 47 B
          rw [hW2] at hal; have hbw := hbel.out.trans (hal.mono hbel.out.size); have hfields := fun W (b : Blk W wr.heap.size 47 B) => pB_cells (p := ((h : Int), (v : Int), hdc, hac)) hpk.dc.len (hB ▸ b); have hbk2 := hbk.out.late hal; have fb2 : W2.cell? ⟨gb, ob + k, none⟩ = some (.slice ta tn tc) := (hal.cell (p := ⟨gb, ob + k, none⟩) hgb).trans fb; have hgb2 : gb < W2.heap.size := Nat.lt_of_lt_of_le hgb hal.size; obtain ⟨Ty, ff, hnn, hbelf, hsurj⟩ := later_worlds W2; have HS := Lib.hid (hsurj W2.drew ((Below.refl W2.heap.size W2).drew)); have y0 : ∀ s, (ff s).cell? ⟨w.heap.size, 0, none⟩ = some (.int .i64 a) := fun s => (hcs'.out _ (hbk2.late (hbelf s))).1; have y1 : ∀ s, (ff s).cell? ⟨w.heap.size, 1, none⟩ = some (.int .i64 d) := fun s => (hcs'.out _ (hbk2.late (hbelf s))).2.1; have y2 : ∀ s, (ff s).cell? ⟨wr.heap.size, 0, none⟩ = some (.int .i64 (h : Int)) := fun s => (hfields _ (hqb.late (hbelf s))).1; have y3 : ∀ s, (ff s).cell? ⟨wr.heap.size, 1, none⟩ = some (.int .i64 (v : Int)) := fun s => (hfields _ (hqb.late (hbelf s))).2.1; have y4 : ∀ s, (ff s).cell? ⟨gb, ob + k, none⟩ = some (.slice ta tn tc) := fun s => ((hbelf s).cell (p := ⟨gb, ob + k, none⟩) hgb2).trans fb2; clear hfields fb fb2; have f' := Lib.hid f; have hpk' := Lib.hid hpk; have hB' := Lib.hid hB; have hcl' := Lib.hid hcl; have hp' := Lib.hid hp; have hone' := Lib.hid hone; have hB36' := Lib.hid hB36; have hal' := Lib.hid hal; have hqb' := Lib.hid hqb; have hW2' := Lib.hid hW2; have hbw' := Lib.hid hbw; have hbk2' := Lib.hid hbk2; have hbl3' := Lib.hid hbl3; have hbok' := Lib.hid hbok; have hbad3' := Lib.hid hbad3; have hil' := Lib.hid hil; have hall2' := Lib.hid hall2; have hgb2' := Lib.hid hgb2; have hbelf' := Lib.hid hbelf; have hsurj' := Lib.hid hsurj; clear f hpk hB hcl hp hone hB36 hal hqb hW2 hbw hbk2 hbl3 hbok hbad3 hil hall2 hgb2 hbelf hsurj
          go_upto_region 6 with (first
            | (refine wpList_load_at rfl 47 (.tmp 24) rfl bb (o + k * 36) rfl (pC ((h : Int), (v : Int), hdc, hac)) B hB'.out _ f'.out Try.underlying47 rfl 36 infoP hcl'.out ?_)
            | (refine wpList_store_row rfl 47 (.tmp 6) (.tmp 25) rfl wr.heap.size B rfl rfl 47 _ (heap_new _ _) (by rw [hB36'.out]; exact infoP) (by rw [hB36'.out]; rfl) hone'.out ?_))
          rw [setRow_alloc, hW2'.out]; refine wp_quiet_in ff (by kernel_rfl) (by kernel_rfl) HS.out ?_
          try simp only [Act.put, List.setIfInBounds_toArray, List.set_cons_succ, List.set_cons_zero]
          iterate 17 (go_big_quiet_step (fail))
          refine wpQuiet_nil ?_; clear y0 y1 y2 y3 y4; intro u; have hdr := hbelf'.out u; have hbk5 := hbk2'.out.late hdr; have hbw5 := hbw'.out.trans (hdr.mono hbw'.out.size); obtain ⟨x5, hx5⟩ : ∃ X, ff u = X := ⟨_, rfl⟩; rw [hx5] at hbk5 hbw5 ⊢; clear hdr hx5
          by_cases he : (tn : Int) = z
          · have hall5 := hall2'.out he
            have hbk5' := Lib.hid hbk5; have hbw5' := Lib.hid hbw5; have hall5' := Lib.hid hall5; clear hbk5 hbw5 hall5
            go_wp2
            go_roundw
            case rel => exact ⟨k + 1, by omega, by go_num, hall5', hbk5', hbw5'⟩
            case measure => simp [intOf]; omega
          · obtain rfl : Q = false := hbad3'.out he
            have hbk5' := Lib.hid hbk5; have hbw5' := Lib.hid hbw5; clear hbk5 hbw5
            go_wp2
            go_ret
            exact ⟨rfl, hbw5'.out⟩
        · have hkn : k = bn := by omega
          subst hkn; obtain rfl : Q = true := hok2'.out (fun i p b h1 h2 => hall.out i p b (by rw [← hl'.out]; exact (List.getElem?_eq_some_iff.1 h1).1) h1 h2)
          go_wp2
          go_ret
          exact ⟨rfl, hbel.out⟩
    · obtain rfl : Q = false := hln'.out (by omega)
      have hbw2' := Lib.hid hbw2; have b2' := Lib.hid b2; clear hbw2 b2
      go_wp2
      go_ret
      exact ⟨rfl, hbw2'.out⟩
end Go.Proofs.Ytpjopeojeglogaa

namespace Go.Proofs.Ytpjopeojeglogaa
open Go.ChangeShapes Go.WideShapes Go.ChangeAt Go.RowKit Go.Deep Tt
set_option linter.unusedVariables false
set_option linter.unusedSimpArgs false

/-- a table of codes that came in: its row may be long -/
structure HufB (w : World) (h : HufM) : Prop where
  len : h.1.1.length = 16
  sl : Sl w h.2.1 h.2.2.1 h.2.2.2 1 (ints .i64 h.1.2)
  wf : ∀ x ∈ h.1.2, (Lit.int .i64 x).wf = true
structure PtB (w : World) (p : PtM) : Prop where
  dc : HufB w p.2.2.1
  ac : HufB w p.2.2.2
  wfh : Wf p.1
  wfv : Wf p.2.1
structure PtsB (w : World) (a : Option Addr) (n c : Nat) (ps : List PtM) : Prop where
  sl : Sl w a n c 36 ((ps.map pC).flatten)
  ok : ∀ p ∈ ps, PtB w p
theorem HufB.mono {w w' : World} {h : HufM} (k : HufB w h) (hb : Below w.heap.size w w') : HufB w' h := ⟨k.len, k.sl.mono hb, k.wf⟩
theorem PtB.mono {w w' : World} {p : PtM} (h : PtB w p) (hb : Below w.heap.size w w') : PtB w' p := ⟨h.dc.mono hb, h.ac.mono hb, h.wfh, h.wfv⟩
theorem PtsB.mono {w w' : World} {a : Option Addr} {n c : Nat} {ps : List PtM} (h : PtsB w a n c ps) (hb : Below w.heap.size w w') : PtsB w' a n c ps := ⟨h.sl.mono hb, fun p hp => (h.ok p hp).mono hb⟩
theorem PtB.pl {w : World} {p : PtM} (h : PtB w p) : (pC p).length = 36 := by simp [pC, hufC_len h.dc.len, hufC_len h.ac.len]
theorem PtsB.ilen {w : World} {a : Option Addr} {n c : Nat} {ps : List PtM} (h : PtsB w a n c ps) : ps.length = n := by
  have h1 := h.sl.len; rw [flat_len pC 36 ps (fun p hp => (h.ok p hp).pl)] at h1
  omega
theorem PtsB.elem {w : World} {a : Option Addr} {n c : Nat} {ps : List PtM} (h : PtsB w a n c ps) {k : Nat} {p : PtM} (hp : ps[k]? = some p) :
    ∃ b o, a = some ⟨b, o, none⟩ ∧ b < w.heap.size ∧ ∀ j v, (pC p)[j]? = some v → w.cell? ⟨b, o + k * 36 + j, none⟩ = some v := by
  have hk : k < n := by rw [← h.ilen]; exact (List.getElem?_eq_some_iff.1 hp).1
  obtain ⟨b, o, e, hb, _, hc⟩ := h.sl.elem hk; rw [flat_elem pC 36 ps (fun p hp => (h.ok p hp).pl) k p hp] at hc; exact ⟨b, o, e, hb, hc⟩
/-- short tables -/
theorem PtsB.few {w : World} {a : Option Addr} {n c : Nat} {ps : List PtM} (h : PtsB w a n c ps) (hf : ∀ p ∈ ps, p.2.2.1.2.2.1 ≤ 150 ∧ p.2.2.2.2.2.1 ≤ 150) : PtsR w a n c ps :=
  ⟨h.sl, fun p hp => ⟨⟨(h.ok p hp).dc.len, (h.ok p hp).dc.sl, by have := hf p hp; omega, (h.ok p hp).dc.wf⟩, ⟨(h.ok p hp).ac.len, (h.ok p hp).ac.sl, by have := hf p hp; omega, (h.ok p hp).ac.wf⟩⟩⟩
section
variable {H : Type} {enc : TypeId × Value → H} {W : World} {base : Nat} {held : Bool}
theorem huf_cells {fuel : Nat} {cs : List Value} {x : DataW H × List MemPlace} (h2 : DataW.trod enc Try.prog W base (fun _ => true) held fuel 45 cs = some x) : ∃ h : HufM, cs = hufC h ∧ HufB W h := by
  have hhl := struct_len Try.underlying45 h2; rw [show Program.cellsOf Try.prog 45 = 17 by kernel_rfl] at hhl; obtain ⟨n3, y3, h3⟩ := field_of Try.underlying45 h2 0 43 0 16 rfl (by kernel_rfl); obtain ⟨n4, y4, h4⟩ := field_of Try.underlying45 h2 1 35 16 1 rfl (by kernel_rfl); obtain ⟨cnt, hc16, e3, _⟩ := array_nums (n := 16) Try.underlying43 Try.underlying3 cint (by kernel_rfl) h3; obtain ⟨a, l, p, e4⟩ := Go.Joins.slice_form Try.underlying35 h4; rw [e4] at h4; obtain ⟨ss, hsl, hw⟩ := open_nums Try.underlying35 Try.underlying3 cint (show DataW.trod enc Try.prog W base (fun _ => true) held n4 35 (Value.slice a l p).cells.toList = some y4 from h4) rfl; refine ⟨((cnt, ss), a, l, p), ?_, ⟨hc16, hsl, hw⟩⟩; have f3 := cutk e3; have f4 := cut1 e4; rw [List.drop_zero] at f3; rw [f3, f4, List.drop_of_length_le (show cs.length ≤ _ by omega)]
  rfl
theorem part_cells {fuel : Nat} {cs : List Value} {x : DataW H × List MemPlace} (h : DataW.trod enc Try.prog W base (fun _ => true) held fuel 47 cs = some x) : ∃ p : PtM, cs = pC p ∧ PtB W p := by
  have hl := struct_len Try.underlying47 h; rw [show Program.cellsOf Try.prog 47 = 36 by kernel_rfl] at hl; obtain ⟨n0, y0, h0⟩ := field_of Try.underlying47 h 0 3 0 1 rfl cint; obtain ⟨n1, y1, h1⟩ := field_of Try.underlying47 h 1 3 1 1 rfl cint; obtain ⟨n2, y2, h2⟩ := field_of Try.underlying47 h 2 45 2 17 rfl (by kernel_rfl); obtain ⟨n3, y3, h3⟩ := field_of Try.underlying47 h 3 45 19 17 rfl (by kernel_rfl); obtain ⟨ph, e0, _, w0⟩ := DataW.trod_int Try.underlying3 h0; obtain ⟨pv, e1, _, w1⟩ := DataW.trod_int Try.underlying3 h1; obtain ⟨dc, e2, o2⟩ := huf_cells h2; obtain ⟨ac, e3, o3⟩ := huf_cells h3; refine ⟨(ph, pv, dc, ac), ?_, ⟨o2, o3, wf_Wf w0, wf_Wf w1⟩⟩; have f0 := cut1 e0; have f1 := cut1 e1; have f2 := cutk e2; have f3 := cutk e3; rw [List.drop_zero] at f0; rw [f0, f1, f2, f3, List.drop_of_length_le (show cs.length ≤ _ by omega), List.append_nil]
  rfl
set_option maxRecDepth 100000 in
theorem open_scan {r : Reach} {v : Value} {d : DataW H} {p : List MemPlace} {b0 : Nat} (hv : Value.okWide Try.prog W r b0 24 v) (h : DataW.Trod enc Try.prog W base (fun _ => true) held 24 v d p) :
    ∃ (s : ScT) (pa : Option Addr) (pn pc : Nat), v = .agg #[.int .i64 s.ax, .int .i64 s.dn, .slice pa pn pc, .int .i64 s.iv] ∧ PtsB W pa pn pc s.ps ∧ Wf s.ax ∧ Wf s.dn ∧ Wf s.iv := by
  obtain ⟨cs, rfl, hsz⟩ := okWide_struct Try.underlying24 hv; obtain ⟨fuel, hf⟩ := h; rw [show (Value.agg cs).cells.toList = cs.toList from rfl] at hf; have hl := struct_len Try.underlying24 hf; rw [show Program.cellsOf Try.prog 24 = 4 by kernel_rfl] at hl; obtain ⟨n0, y0, h0⟩ := field_of Try.underlying24 hf 0 3 0 1 rfl cint; obtain ⟨n1, y1, h1⟩ := field_of Try.underlying24 hf 1 3 1 1 rfl cint; obtain ⟨n2, y2, h2⟩ := field_of Try.underlying24 hf 2 22 2 1 rfl (by kernel_rfl); obtain ⟨n3, y3, h3⟩ := field_of Try.underlying24 hf 3 3 3 1 rfl cint; obtain ⟨ax, e0, _, w0⟩ := DataW.trod_int Try.underlying3 h0; obtain ⟨dn, e1, _, w1⟩ := DataW.trod_int Try.underlying3 h1; obtain ⟨iv, e3, _, w3⟩ := DataW.trod_int Try.underlying3 h3; obtain ⟨pa, pn, pc, e2⟩ := Go.Joins.slice_form Try.underlying22 h2; rw [e2] at h2; obtain ⟨ps, sq, rq⟩ := open_rowv ((0, 0, (([], []), none, 0, 0), (([], []), none, 0, 0)) : PtM) 36 (by decide) pC (PtB W) (fun q hq => hq.pl) Try.underlying22 (by kernel_rfl) (show DataW.trod enc Try.prog W base (fun _ => true) held n2 22 (Value.slice pa pn pc).cells.toList = some y2 from h2) (fun m cs y hy => part_cells hy); refine ⟨⟨ax, dn, iv, ps⟩, pa, pn, pc, ?_, ⟨sq, rq⟩, wf_Wf w0, wf_Wf w1, wf_Wf w3⟩; have f0 := cut1 e0; have f1 := cut1 e1; have f2 := cut1 e2; have f3 := cut1 e3; rw [List.drop_zero] at f0
  congr 1
  apply Array.toList_inj.1
  rw [f0, f1, f2, f3, List.drop_of_length_le (show cs.toList.length ≤ _ by omega)]
theorem block_cells {fuel : Nat} {cs : List Value} {x : DataW H × List MemPlace} (h : DataW.trod enc Try.prog W base (fun _ => true) held fuel 129 cs = some x) : ∃ b : List Int, cs = ints .i64 b ∧ (b.length = 64 ∧ ∀ y ∈ b, (Lit.int .i64 y).wf = true) := by
  obtain ⟨t, ht, e1, hw⟩ := array_nums (n := 64) Try.underlying129 Try.underlying3 cint (by kernel_rfl) h; exact ⟨t, e1, ht, hw⟩
theorem row_cells {fuel : Nat} {cs : List Value} {x : DataW H × List MemPlace} (h : DataW.trod enc Try.prog W base (fun _ => true) held fuel 126 cs = some x) : ∃ b : BpM, cs = [bpV b] ∧ BpOk W b := by
  obtain ⟨a, n, c, e⟩ := Go.Joins.slice_form Try.underlying126 (by have hl := h; exact hl); rw [e] at h; obtain ⟨bs, s, r⟩ := open_rowv ([] : List Int) 64 (by decide) (ints .i64) (fun b => b.length = 64 ∧ ∀ y ∈ b, (Lit.int .i64 y).wf = true) (fun q hq => by rw [ints_len]; exact hq.1) Try.underlying126 (by kernel_rfl) (show DataW.trod enc Try.prog W base (fun _ => true) held fuel 126 (Value.slice a n c).cells.toList = some x from h) (fun m cs y hy => block_cells hy); exact ⟨(bs, a, n, c), e, ⟨s, fun b hb => (r b hb).1, fun b hb => (r b hb).2⟩⟩
theorem open_blocks {v : Value} {d : DataW H} {p : List MemPlace} (h : DataW.Trod enc Try.prog W base (fun _ => true) held 25 v d p) (hv : ∃ a n c, v = .slice a n c) :
    ∃ (a : Option Addr) (n c : Nat) (bs : List BpM), v = .slice a n c ∧ BpsR W a n c bs := by
  obtain ⟨a, n, c, rfl⟩ := hv; obtain ⟨fuel, hf⟩ := h; obtain ⟨bs, s, r⟩ := open_rowv (([], none, 0, 0) : BpM) 1 (by decide) (fun b => [bpV b]) (BpOk W) (fun q hq => rfl) Try.underlying25 (by kernel_rfl) hf (fun m cs y hy => row_cells hy); refine ⟨a, n, c, bs, rfl, ⟨?_, r⟩⟩
  have e : ((bs.map fun b => [bpV b]).flatten) = bs.map bpV := by
    clear s r
    induction bs with
    | nil => rfl
    | cons b r ih => rw [List.map_cons, List.flatten_cons, ih]; rfl
  rw [e] at s; exact s
end
end Go.Proofs.Ytpjopeojeglogaa
