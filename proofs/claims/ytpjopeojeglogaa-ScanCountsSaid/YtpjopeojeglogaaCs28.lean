/- Chapter 12: a marker of a restart read: the program's reader.again. | Chapter 12: planes of blocks that are made and written. | Chapter 12 (plain): each block of each plane stands once in the order. -/
import Derived.Test.YtpjopeojeglogaaCs27
import Derived.Laws.MakeOwn
import Derived.Deep.MidRow
import Derived.Test.YtpjopeojeglogaaCs18
namespace Go.Proofs.Ytpjopeojeglogaa
open Go.RowKit Tt
set_option linter.unusedVariables false
set_option linter.unusedSimpArgs false

theorem fill_eq {D : List Int} {n i : Nat} (hn : D.length = n) : filledS D i (8 * n) = fillS ((bitsS D).drop i) := by
  have hl : ((bitsS D).drop i).length = 8 * n - i := by rw [List.length_drop, bitsS_len, hn]
  have hget : ∀ j, j < 8 * n - i → ((bitsS D).drop i)[j]? = some (Tt.bitA D (i + j)) := fun j hj => by
    rw [List.getElem?_drop]; exact bitsS_get D (i + j) (by omega)
  unfold filledS fillS; rw [hl]
  congr 1
  rw [Bool.eq_iff_iff, List.all_eq_true, List.all_eq_true]
  constructor
  · intro h x hx
    obtain ⟨j, hj, e⟩ := List.mem_iff_getElem.1 hx; rw [hl] at hj; have h1 := hget j hj; rw [List.getElem?_eq_getElem (by rw [hl]; exact hj), e] at h1; injection h1 with h1; rw [h1]; exact h j (List.mem_range.2 hj)
  · intro h j hj
    have hj := List.mem_range.1 hj; exact h _ (List.mem_of_getElem? (hget j hj))
theorem againR_no {iv : Int} {n : Nat} {B rest : List Int} (h : ¬ (fillS B = true ∧ 2 ≤ rest.length ∧ rest.getD 1 0 = rstS iv n)) : againR iv n B rest = none := by unfold againR; rw [if_neg h]
theorem againR_ok {iv : Int} {n : Nat} {B rest : List Int} (h : fillS B = true ∧ 2 ≤ rest.length ∧ rest.getD 1 0 = rstS iv n) : againR iv n B rest = beginS (rest.drop 2) := by unfold againR; rw [if_pos h]
set_option maxRecDepth 100000 in
set_option maxHeartbeats 4000000 in
theorem again_any (rr gl rb : Nat) (s : ScT) (pa : Option Addr) (pn pc : Nat) (ta : Option Addr) (tc : Nat) (ra : Option Addr) (rn rc : Nat) (la : List Int) (a : Option Addr) (n c : Nat) (D : List Int) (i u : Nat) (R : List Int) (w : World)
    (h : RdB w rr gl rb s pa pn pc ta tc ra rn rc la a n c D i) (hpn : 0 < pn) (hs : Sl w ra rn rc 1 (ints .u8 R)) (hR : Byt R) (hra : ∀ x, ra = some x → x.block ≠ rr ∧ x.block ≠ gl ∧ x.block < w.heap.size) (hn : rn ≤ 1000000) (hres : resS s.iv u = true) (hiv : s.iv ≤ 65535) (hu : u ≤ 262144) :
    Calls Try.prog 103 #[.pointer (some ⟨rr, 0, none⟩), .int .i64 u] w fun e w' =>
      ((againR s.iv u ((bitsS D).drop i) R = none ∧ e = .returned (.bool false)) ∨ ∃ R2 rb a2 n2 c2 D2 ra2 rn2 rc2, againR s.iv u ((bitsS D).drop i) R = some (bitsS D2, R2) ∧ e = .returned (.bool true) ∧ RdB w' rr gl rb s pa pn pc ta tc ra2 rn2 rc2 (List.replicate pn 0) a2 n2 c2 D2 0 ∧ Sl w' ra2 rn2 rc2 1 (ints .u8 R2) ∧ In ra2 ra ∧ Byt R2 ∧ w.heap.size ≤ rb ∧ rn2 ≤ rn ∧ ∀ x, a2 = some x → w.heap.size ≤ x.block) ∧ Mo (fun k => k = rr ∨ k = gl) w w' := by
  have hRl := hs.ilen; have hFe := fill_eq (i := i) h.bt.sl.ilen; have hno := @againR_no s.iv u ((bitsS D).drop i) R; have hok := @againR_ok s.iv u ((bitsS D).drop i) R; rw [← hFe] at hno hok; obtain ⟨F, hF⟩ : ∃ F, filledS D i (8 * n) = F := ⟨_, rfl⟩; have HF := fun W (hb : Below w.heap.size w W) => (filled_any rb a n c D i W (h.bt.later hb)).mono (R' := fun e w' => e = .returned (.bool (filledS D i (8 * n))) ∧ Below W.heap.size W w') fun e w' he => ⟨he.1, he.2.below _⟩; simp only [hF] at hno hok HF; obtain ⟨iv, q, q1, r, X, hive, hi0, hrst, ⟨e1, e2⟩, e3, ⟨e4, e5⟩, e6, e7, e8, hX⟩ := rst_steps hres hiv hu; rw [hrst] at hno hok; obtain ⟨k3, k5, k6, k7⟩ := rdr_cells h.rd; rw [hive] at k3; obtain ⟨Ty, ff, hnn, hbel, hsurj⟩ := later_worlds w; have HS := Lib.hid (hsurj w.drew ((Below.refl w.heap.size w).drew)); have hlr := h.rd.lt; have y0 : ∀ s, (ff s).cell? ⟨rr, 3, none⟩ = some (.int .i64 (iv : Int)) := fun s => ((hbel s).cell (p := ⟨rr, 3, none⟩) hlr).trans k3; have y1 : ∀ s, (ff s).cell? ⟨rr, 5, none⟩ = some (.slice ra rn rc) := fun s => ((hbel s).cell (p := ⟨rr, 5, none⟩) hlr).trans k5; have y2 : ∀ s, (ff s).cell? ⟨rr, 6, none⟩ = some (.pointer (some ⟨rb, 0, none⟩)) := fun s => ((hbel s).cell (p := ⟨rr, 6, none⟩) hlr).trans k6; clear k3 k5 k6 k7 hFe hF hres hrst; have h' := Lib.hid h; have hs' := Lib.hid hs; have hR' := Lib.hid hR; have hra' := Lib.hid hra; have hn' := Lib.hid hn; have hiv' := Lib.hid hiv; have hRl' := Lib.hid hRl; have hno' := Lib.hid hno; have hok' := Lib.hid hok; have HF' := Lib.hid HF; have hbel' := Lib.hid hbel; have hsurj' := Lib.hid hsurj; have hlr' := Lib.hid hlr; have hive' := Lib.hid hive; have hpn' := Lib.hid hpn; clear h hs hR hra hn hiv hRl hno hok HF hbel hsurj hlr hive hpn
  go_enter Try.func103, Try.ntmps103
  cases F with
  | false =>
    have hfin := hno'.out (by simp)
    go_upto_region 1 with fail
    refine wp_quiet_in ff (by kernel_rfl) (by kernel_rfl) HS.out ?_
    iterate 34 (go_big_quiet_step ((go_at_call 87; refine (HF'.out _ (hbel'.out _)).mono ?_; rintro e w3 ⟨rfl, hb3⟩; exact ⟨rfl, hsurj'.out _ ((hbel'.out _).trans (hb3.mono (hbel'.out _).size))⟩)))
    refine wpQuiet_nil ?_; clear y0 y1 y2; intro u2; have hb4 := hbel'.out u2; obtain ⟨w4, hw4⟩ : ∃ X, ff u2 = X := ⟨_, rfl⟩; rw [hw4] at hb4 ⊢; clear hw4; have hb4' := Lib.hid hb4; have hfin' := Lib.hid hfin; clear hb4 hfin
    go_wp2
    go_ret
    exact ⟨.inl ⟨hfin'.out, rfl⟩, Mo.of_below hb4'.out⟩
  | true =>
    by_cases c1 : rn < 2
    · have hfin := hno'.out (by have := hRl'.out; omega)
      have c1 : (rn : Int) < 2 := by omega
      go_upto_region 1 with fail
      refine wp_quiet_in ff (by kernel_rfl) (by kernel_rfl) HS.out ?_
      iterate 34 (go_big_quiet_step ((go_at_call 87; refine (HF'.out _ (hbel'.out _)).mono ?_; rintro e w3 ⟨rfl, hb3⟩; exact ⟨rfl, hsurj'.out _ ((hbel'.out _).trans (hb3.mono (hbel'.out _).size))⟩)))
      refine wpQuiet_nil ?_; clear y0 y1 y2; intro u2; have hb4 := hbel'.out u2; obtain ⟨w4, hw4⟩ : ∃ X, ff u2 = X := ⟨_, rfl⟩; rw [hw4] at hb4 ⊢; clear hw4; have hb4' := Lib.hid hb4; have hfin' := Lib.hid hfin; clear hb4 hfin
      go_wp2
      go_ret
      exact ⟨.inl ⟨hfin'.out, rfl⟩, Mo.of_below hb4'.out⟩
    · have c1 : ¬ (rn : Int) < 2 := by omega
      have hlt1 : 1 < rn := by omega
      obtain ⟨ba, oa, hra2, hbal, fa⟩ := hs'.out.at hlt1; subst hra2; have f1 := fa 1 _ (ints_get (by rw [hRl'.out]; exact hlt1)); obtain ⟨y, hy⟩ : ∃ y, R.getD 1 0 = y := ⟨_, rfl⟩
      have hyb : 0 ≤ y ∧ y < 256 := by
        have := hR'.out y (by rw [← hy, List.getD_eq_getElem?_getD, List.getElem?_eq_getElem (by rw [hRl'.out]; omega)]; exact List.getElem_mem _); exact this
      rw [hy] at f1; have y3 : ∀ s, (ff s).cell? ⟨ba, oa + 1, none⟩ = some (.int .u8 y) := fun s => ((hbel'.out s).cell (p := ⟨ba, oa + 1, none⟩) hbal).trans f1; have e9 : IntKind.i64.wrap y = y := by rw [IntKind.wrap_i64]; omega
      have hRl2 := hRl'.out
      by_cases c2 : y = X
      · have hag := hok'.out ⟨rfl, by omega, by rw [hy]; exact c2⟩
        have c3 : (y != (X : Int)) = false := by simpa using c2
        clear c2 fa f1 hRl2; have hy' := Lib.hid hy; have hyb' := Lib.hid hyb; have hag' := Lib.hid hag; clear hy hyb hag
        go_upto_region 1 with fail
        refine wp_quiet_in ff (by kernel_rfl) (by kernel_rfl) HS.out ?_
        iterate 34 (go_big_quiet_step ((go_at_call 87; refine (HF'.out _ (hbel'.out _)).mono ?_; rintro e w3 ⟨rfl, hb3⟩; exact ⟨rfl, hsurj'.out _ ((hbel'.out _).trans (hb3.mono (hbel'.out _).size))⟩)))
        refine wpQuiet_nil ?_; clear y0 y1 y2; intro u2; have hb4 := hbel'.out u2; obtain ⟨w4, hw4⟩ : ∃ X, ff u2 = X := ⟨_, rfl⟩; rw [hw4] at hb4 ⊢; clear hw4; clear y3; obtain ⟨a5, r5, s5, i5⟩ := sub_l (P := Try.prog) Try.underlying30 sizeU8 hs'.out 2 (by omega) (by omega) (rn - 2) (rc - 2) (by omega) (by have := hs'.out.le; omega); rw [show (2 : Int).toNat * 1 = 2 from rfl, show (ints .u8 R).drop 2 = ints .u8 (R.drop 2) by unfold ints; rw [List.map_drop]] at s5; have n5 : ∀ x, a5 = some x → x.block ≠ rr ∧ x.block ≠ gl ∧ x.block < w.heap.size := fun x hx => by obtain ⟨z, hz, e⟩ := i5 x hx; rw [← e]; exact hra'.out z hz
        have h4 := h'.out.late hb4; have hD4 := h4; have hdD := hb4; have g5 := (rdr_cells hD4.rd).2.1; have gf := hD4.rd.frozen 5; have hr6 := rdr_set5 hD4.rd a5 (rn - 2) (rc - 2); have hbt6 := (But.refl rr w4).set 5 (.slice a5 (rn - 2) (rc - 2)); have hl6 := hD4.lr.but hbt6 (Ne.symm hD4.ne.2.2); have hll := hD4.ll; have s6 := (s5.mono hdD).but hbt6 (fun x hx => (n5 x hx).1); have m6 : Mo (fun k => k = rr ∨ k = gl) w (w4.setCell ⟨rr, 5, none⟩ (.slice a5 (rn - 2) (rc - 2))) := (Mo.of_below hdD).trans (S' := fun k => k = rr) (Mo.of_but hbt6 rfl) fun i hi e => .inl e; have HB := begin_any rr gl s pa pn pc ta tc a5 (rn - 2) (rc - 2) (some ⟨rb, 0, none⟩) la (R.drop 2) _ hr6 hl6 hll hpn'.out s6 (fun x hx => hR'.out x (List.mem_of_mem_drop hx)) (fun x hx => ⟨(n5 x hx).1, (n5 x hx).2.1, Nat.lt_of_lt_of_le (n5 x hx).2.2 m6.size⟩) (by have := hn'.out; omega); clear hD4 hr6 hl6 hll s6 hbt6 h4 hdD s5 n5; have hb4' := Lib.hid hb4; have m6' := Lib.hid m6; have HB' := Lib.hid HB; have i5' := Lib.hid i5; clear hb4 m6 HB i5
        go_upto_region 4 with fail
        clear g5 gf; obtain ⟨w6, hw6⟩ : ∃ W, w4.setCell ⟨rr, 5, none⟩ (.slice a5 (rn - 2) (rc - 2)) = W := ⟨_, rfl⟩; rw [hw6] at m6' HB' ⊢; clear hw6
        go_wp2_with fail
        refine HB'.out.mono ?_; rintro e w7 ⟨hres, m7⟩; have m8 := m6'.out.trans m7 fun i hi e => e; clear m7
        rcases hres with ⟨hb0, rfl⟩ | ⟨R2, rb2, a2, n2, c2, D2, ra2, rn2, rc2, hb0, rfl, g1, g2, g3, g4, g6, g7, g8⟩
        · have hfin := hag'.out.trans hb0
          have hfin' := Lib.hid hfin; have m8' := Lib.hid m8; clear hfin m8
          go_wp2
          go_ret
          exact ⟨.inl ⟨hfin'.out, rfl⟩, m8'.out⟩
        · have hfin := hag'.out.trans hb0
          have g3b : In ra2 (some ⟨ba, oa, none⟩) := fun x hx => by
            obtain ⟨z, hz, e⟩ := g3 x hx; obtain ⟨z2, hz2, e2⟩ := i5'.out z hz; exact ⟨z2, hz2, e2.trans e⟩
          have g6b := Nat.le_trans m6'.out.size g6; have g8b : ∀ x, a2 = some x → w.heap.size ≤ x.block := fun x hx => Nat.le_trans m6'.out.size (g8 x hx); have hfin' := Lib.hid hfin; have m8' := Lib.hid m8; have g1' := Lib.hid g1; have g2' := Lib.hid g2; have g3b' := Lib.hid g3b; have g4' := Lib.hid g4; have g6b' := Lib.hid g6b; clear hfin m8 g1 g2 g3b g4 g6b
          go_wp2
          go_ret
          exact ⟨.inr ⟨R2, rb2, a2, n2, c2, D2, ra2, rn2, rc2, hfin'.out, rfl, g1'.out, g2'.out, g3b'.out, g4'.out, g6b'.out, by omega, g8b⟩, m8'.out⟩
      · have hfin := hno'.out (by rw [hy]; rintro ⟨_, _, h⟩; exact c2 h)
        have c2 : (y != (X : Int)) = true := by simpa using c2
        clear fa f1 hRl2; have hy' := Lib.hid hy; have hyb' := Lib.hid hyb; clear hy hyb
        go_upto_region 1 with fail
        refine wp_quiet_in ff (by kernel_rfl) (by kernel_rfl) HS.out ?_
        iterate 34 (go_big_quiet_step ((go_at_call 87; refine (HF'.out _ (hbel'.out _)).mono ?_; rintro e w3 ⟨rfl, hb3⟩; exact ⟨rfl, hsurj'.out _ ((hbel'.out _).trans (hb3.mono (hbel'.out _).size))⟩)))
        refine wpQuiet_nil ?_; clear y0 y1 y2; intro u2; have hb4 := hbel'.out u2; obtain ⟨w4, hw4⟩ : ∃ X, ff u2 = X := ⟨_, rfl⟩; rw [hw4] at hb4 ⊢; clear hw4; have hb4' := Lib.hid hb4; have hfin' := Lib.hid hfin; clear hb4 hfin
        go_wp2
        go_ret
        exact ⟨.inl ⟨hfin'.out, rfl⟩, Mo.of_below hb4'.out⟩
end Go.Proofs.Ytpjopeojeglogaa

namespace Tt
open Go
section
variable {P : Program} {ops : Array Oper} {rest : List Oper} {o : Oper} {a : Act} {Q : Exit → Act → World → Prop}
theorem wpList_make_rowN (w : World) (hg : o.guard = none) (l c : Operand) (t : TypeId) (hop : o.op = Op.makeSlice t l c)
    (e : TypeId) (i : TypeInfo) (z : Value) (ht : P.underlying t = some (.slice e)) (hi : P.info? e = some i) (hz : i.zero = some z)
    (kl kc : IntKind) (n : Nat) (hl : a.eval l = .int kl (n : Int)) (hc : a.eval c = .int kc (n : Int)) (hbytes : i.bytes * n ≤ 281474976710656) (h63 : n ≤ 9223372036854775807)
    (hK : wpList P ops Q rest (a.put o.dst (.slice (some ⟨w.heap.size, 0, none⟩) n n)) (w.alloc (.cells (madeCells z.cells (n * i.size)) e))) :
    wpList P ops Q (o :: rest) a w := by
  refine wpList_plain hg fun K hK' => ?_; have hrun := run_make (P := P) w t e i z ht hi hz kl kc n n (by omega) (Int.le_refl _) (by rw [← Int.natCast_mul]; omega) (by omega); rw [Int.toNat_natCast] at hrun; unfold Oper.wp
  simp [execOp, hop, hl, hc, hrun, Result.andThen]
  exact hK' _ _ hK
end
end Tt
namespace Go.Proofs.Ytpjopeojeglogaa
open Go.RowKit Tt
set_option linter.unusedVariables false
set_option linter.unusedSimpArgs false

def flatB (l : List (List Int)) : List Value := (l.map (ints .i64)).flatten
theorem flatB_len {l : List (List Int)} (h : ∀ x ∈ l, x.length = 64) : (flatB l).length = l.length * 64 := by
  unfold flatB; have := flat_len (ints .i64) 64 l (fun x hx => by rw [ints_len]; exact h x hx); rw [this]
theorem flatB_get : ∀ (l : List (List Int)), (∀ x ∈ l, x.length = 64) → ∀ j, (flatB l)[j]? = (l[j / 64]?).bind fun x => (ints .i64 x)[j % 64]?
  | [], _, j => by simp [flatB]
  | x :: l, h, j => by
    have hx : (ints .i64 x).length = 64 := by rw [ints_len]; exact h x (List.mem_cons_self ..)
    have ih := flatB_get l (fun y hy => h y (List.mem_cons_of_mem _ hy)); have e : flatB (x :: l) = ints .i64 x ++ flatB l := by unfold flatB; rw [List.map_cons, List.flatten_cons]
    rw [e]
    rcases Nat.lt_or_ge j 64 with hj | hj
    · rw [List.getElem?_append_left (by omega), Nat.div_eq_of_lt hj, Nat.mod_eq_of_lt hj]
      rfl
    · rw [List.getElem?_append_right (by omega), hx, ih (j - 64), show j / 64 = (j - 64) / 64 + 1 by omega, List.getElem?_cons_succ, show (j - 64) % 64 = j % 64 by omega]
theorem flatB_set {l : List (List Int)} (h : ∀ x ∈ l, x.length = 64) {k : Nat} (hk : k < l.length) {b : List Int} (hb : b.length = 64) : setL (flatB l).toArray (k * 64) (ints .i64 b) = (flatB (l.set k b)).toArray := by
  have hbl : (ints .i64 b).length = 64 := by rw [ints_len]; exact hb
  refine Array.ext_getElem? fun j => ?_; have hle : (k + 1) * 64 ≤ l.length * 64 := Nat.mul_le_mul_right _ hk
  rw [setL_get _ _ _ _ (by rw [List.size_toArray, flatB_len h, hbl]; omega), hbl, List.getElem?_toArray, List.getElem?_toArray,
    flatB_get _ h, flatB_get _ (fun x hx => (List.mem_or_eq_of_mem_set hx).elim (h x) (fun e => e ▸ hb))]
  by_cases hj : k * 64 ≤ j ∧ j < k * 64 + 64
  · rw [if_pos hj, show j / 64 = k by omega, List.getElem?_set_self hk, show j % 64 = j - k * 64 by omega]
    rfl
  · rw [if_neg hj, List.getElem?_set_ne (by omega)]
theorem made_flat (n : Nat) : madeCells z64 (n * 64) = (flatB (List.replicate n (List.replicate 64 0))).toArray := by
  have hz : ∀ x ∈ List.replicate n (List.replicate 64 (0 : Int)), x.length = 64 := fun x hx => by rw [List.eq_of_mem_replicate hx, List.length_replicate]
  refine Array.ext_getElem? fun j => ?_; rw [show (flatB (List.replicate n (List.replicate 64 (0 : Int)))).toArray[j]? = (flatB (List.replicate n (List.replicate 64 (0 : Int))))[j]? from List.getElem?_toArray .., flatB_get _ hz]
  by_cases hj : j < n * 64
  · have h1 : j / 64 < n := by omega
    rw [List.getElem?_replicate, if_pos h1]
    show _ = (ints .i64 (List.replicate 64 0))[j % 64]?
    have h2 : j % 64 < 64 := Nat.mod_lt _ (by decide); unfold ints; rw [List.getElem?_map, List.getElem?_replicate, if_pos h2]; have h3 : (madeCells z64 (n * 64)).size = n * 64 := size_madeCells _ _; rw [Array.getElem?_eq_getElem (by omega)]
    have h4 : ∀ k : Nat, k < 64 → z64[k]! = .int .i64 0 := fun k hk => by
      rw [z64_eq]; unfold ints; rw [List.map_replicate, List.toArray_replicate]; simp [hk]
    simp only [madeCells, Array.getElem_map, Array.getElem_range, Option.map_some]; exact congrArg some (h4 (j % z64.size) (Nat.mod_lt _ (by decide)))
  · rw [Array.getElem?_eq_none (by rw [size_madeCells]; omega), List.getElem?_eq_none (by rw [List.length_replicate]; omega)]
    rfl
/-- planes that were made since B: where each lies, and its blocks -/
def obV (x : Nat × List (List Int)) : Value := .slice (some ⟨x.1, 0, none⟩) x.2.length x.2.length
structure OutM (B : Nat) (w : World) (a : Option Addr) (n c : Nat) (L : List (Nat × List (List Int))) : Prop where
  own : w.ownsRow B 126 1 (.slice a n c) n (L.map obV)
  blk : ∀ (i : Nat) x, L[i]? = some x → B ≤ x.1 ∧ Blk w x.1 129 (flatB x.2).toArray ∧ ∀ b ∈ x.2, b.length = 64 ∧ ∀ y ∈ b, (Lit.int .i64 y).wf = true
  inj : ∀ (i j : Nat) x y, L[i]? = some x → L[j]? = some y → x.1 = y.1 → i = j
theorem OutM.late {B : Nat} {w w' : World} {a : Option Addr} {n c : Nat} {L : List (Nat × List (List Int))} (h : OutM B w a n c L) (hb : Below w.heap.size w w') : OutM B w' a n c L :=
  ⟨own_later h.own hb, fun i x hx => ⟨(h.blk i x hx).1, (h.blk i x hx).2.1.late hb, (h.blk i x hx).2.2⟩, h.inj⟩
theorem OutM.mo {S : Nat → Prop} {B : Nat} {w w' : World} {a : Option Addr} {n c : Nat} {L : List (Nat × List (List Int))} (h : OutM B w a n c L) (m : Mo S w w') (h1 : ∀ k, (Value.slice a n c).ownBlock = some k → ¬ S k) (h2 : ∀ (i : Nat) x, L[i]? = some x → ¬ S x.1) : OutM B w' a n c L :=
  ⟨own_mo h.own m h1, fun i x hx => ⟨(h.blk i x hx).1, (h.blk i x hx).2.1.mo m (h2 i x hx), (h.blk i x hx).2.2⟩, h.inj⟩
theorem OutM.len {B : Nat} {w : World} {a : Option Addr} {n c : Nat} {L : List (Nat × List (List Int))} (h : OutM B w a n c L) : L.length = n := by
  have := (Sl.of_own h.own).1.len; rw [List.length_map] at this; omega
theorem but_cells {b o : Nat} {vs : List Value} {w : World} : But b w (w.setCells b o vs) := but_setL vs o (But.refl b w)
/-- a block written -/
theorem OutM.put {B : Nat} {w : World} {a : Option Addr} {n c : Nat} {L : List (Nat × List (List Int))} (h : OutM B w a n c L) {i k : Nat} {x : Nat × List (List Int)} (hx : L[i]? = some x) (hk : k < x.2.length) {b : List Int} (hb : b.length = 64) (hw : ∀ y ∈ b, (Lit.int .i64 y).wf = true) :
    OutM B (w.setCells x.1 (k * 64) (ints .i64 b)) a n c (L.set i (x.1, x.2.set k b)) := by
  have hil := (List.getElem?_eq_some_iff.1 hx).1; obtain ⟨hB, hbl, hbw⟩ := h.blk i x hx; have hbt : But x.1 w (w.setCells x.1 (k * 64) (ints .i64 b)) := but_cells
  have hmap : (L.set i (x.1, x.2.set k b)).map obV = L.map obV := by
    refine List.ext_getElem? fun j => ?_; rw [List.getElem?_map, List.getElem?_map]
    by_cases hj : i = j
    · subst hj
      rw [List.getElem?_set_self hil, hx]
      simp [obV]
    · rw [List.getElem?_set_ne hj]
  refine ⟨by rw [hmap]; exact own_but h.own hbt (own_neB h.own hbl (by decide)), fun j y hy => ?_, fun j1 j2 y1 y2 h1 h2 he => ?_⟩
  · by_cases hj : i = j
    · subst hj
      rw [List.getElem?_set_self hil] at hy; injection hy with hy; subst hy; refine ⟨hB, ?_, fun z hz => ?_⟩
      · have := blk_setL (ints .i64 b) (k * 64) hbl
        rw [flatB_set (fun z hz => (hbw z hz).1) hk hb] at this; exact this
      · exact (List.mem_or_eq_of_mem_set hz).elim (hbw z) (fun e => e ▸ ⟨hb, hw⟩)
    · rw [List.getElem?_set_ne hj] at hy
      obtain ⟨k1, k2, k3⟩ := h.blk j y hy; exact ⟨k1, k2.but hbt (fun e => hj (h.inj i j x y hx hy e.symm)), k3⟩
  · have key : ∀ (j : Nat) y, (L.set i (x.1, x.2.set k b))[j]? = some y → ∃ z, L[j]? = some z ∧ z.1 = y.1 := fun j y hy => by
      by_cases hj : i = j
      · subst hj
        rw [List.getElem?_set_self hil] at hy; injection hy with hy; exact ⟨x, hx, by rw [← hy]⟩
      · rw [List.getElem?_set_ne hj] at hy
        exact ⟨y, hy, rfl⟩
    obtain ⟨z1, a1, b1⟩ := key j1 y1 h1; obtain ⟨z2, a2, b2⟩ := key j2 y2 h2; exact h.inj j1 j2 z1 z2 a1 a2 (by rw [b1, b2, he])
theorem OutM.snoc {B : Nat} {w w' : World} {a a' : Option Addr} {n c c' : Nat} {L : List (Nat × List (List Int))} (h : OutM B w a n c L) {g : Nat} {l : List (List Int)} (hg : B ≤ g) (hb : Blk w g 129 (flatB l).toArray) (hl : ∀ b ∈ l, b.length = 64 ∧ ∀ y ∈ b, (Lit.int .i64 y).wf = true) (hne : ∀ (i : Nat) x, L[i]? = some x → x.1 ≠ g)
    (ho : w'.ownsRow B 126 1 (.slice a' (n + 1) c') (n + 1) (L.map obV ++ [obV (g, l)])) (hgr : w.grownBy w' (Value.slice a n c).ownBlock) : OutM B w' a' (n + 1) c' (L ++ [(g, l)]) := by
  have hm := Mo.of_grown (S := fun k => (Value.slice a n c).ownBlock = some k) hgr fun k hk => hk
  have key : ∀ (i : Nat) x, (L ++ [(g, l)])[i]? = some x → (L[i]? = some x) ∨ (i = L.length ∧ x = (g, l)) := fun i x hx => by
    rcases Nat.lt_or_ge i L.length with hi | hi
    · rw [List.getElem?_append_left hi] at hx; exact .inl hx
    · have hi2 := (List.getElem?_eq_some_iff.1 hx).1
      rw [List.length_append, List.length_singleton] at hi2; obtain rfl : i = L.length := by omega
      rw [List.getElem?_concat_length] at hx; injection hx with hx; exact .inr ⟨rfl, hx.symm⟩
  refine ⟨by rw [List.map_append]; exact ho, fun i x hx => ?_, fun i j x y hx hy he => ?_⟩
  · rcases key i x hx with hx | ⟨rfl, rfl⟩
    · obtain ⟨k1, k2, k3⟩ := h.blk i x hx
      exact ⟨k1, k2.mo hm (own_neB h.own k2 (by decide)), k3⟩
    · exact ⟨hg, hb.mo hm (own_neB h.own hb (by decide)), hl⟩
  · rcases key i x hx with hx | ⟨rfl, rfl⟩
    · rcases key j y hy with hy | ⟨rfl, rfl⟩
      · exact h.inj i j x y hx hy he
      · exact absurd he (hne i x hx)
    · rcases key j y hy with hy | ⟨rfl, rfl⟩
      · exact absurd he.symm (hne j y hy)
      · rfl
theorem OutM.cell {B : Nat} {w : World} {a : Option Addr} {n c : Nat} {L : List (Nat × List (List Int))} (h : OutM B w a n c L) {i : Nat} {x : Nat × List (List Int)} (hx : L[i]? = some x) : ∃ g o, a = some ⟨g, o, none⟩ ∧ g < w.heap.size ∧ w.cell? ⟨g, o + i, none⟩ = some (obV x) ∧ g ≠ x.1 := by
  have hs := (Sl.of_own h.own).1; have hi : i < n := by rw [← h.len]; exact (List.getElem?_eq_some_iff.1 hx).1
  obtain ⟨g, o, e, hg, hc⟩ := hs.at hi; refine ⟨g, o, e, hg, hc i (obV x) (by rw [List.getElem?_map, hx]; rfl), fun e2 => ?_⟩; have := own_neB h.own (h.blk i x hx).2.1 (by decide)
  rcases h.own.2 with ⟨hv, _⟩ | ⟨g', cap, cur, hv, _⟩
  · rw [e] at hv; cases hv
  · rw [hv] at this
    rw [e] at hv; injection hv with hv _ _; injection hv with hv; injection hv with hv _ _; exact this (by show some g' = some x.1; rw [← hv, e2])
/-- planes of blocks as they are read -/
theorem OutM.reads {B : Nat} {w : World} {a : Option Addr} {n c : Nat} {L : List (Nat × List (List Int))} (h : OutM B w a n c L) (hm : ∀ x ∈ L, x.2.length ≤ maxLen) : BpsR w a n c (L.map fun x => (x.2, some ⟨x.1, 0, none⟩, x.2.length, x.2.length)) := by
  refine ⟨?_, fun b hb => ?_⟩
  · rw [List.map_map]
    exact (Sl.of_own h.own).1
  · obtain ⟨x, hx, rfl⟩ := List.mem_map.1 hb
    obtain ⟨i, hi, e⟩ := List.mem_iff_getElem.1 hx; obtain ⟨h1, h2, h3⟩ := h.blk i x (by rw [List.getElem?_eq_getElem hi, e]); refine ⟨⟨?_, Nat.le_refl _, hm x hx, fun j hj => ⟨x.1, 0, rfl, h2.lt, fun k v hv => ?_⟩, fun e => by cases e⟩, fun b hb => (h3 b hb).1, fun b hb => (h3 b hb).2⟩
    · exact flatB_len fun b hb => (h3 b hb).1
    · rw [Nat.zero_add]; exact h2.cell (by rw [List.getElem?_toArray]; exact hv)
end Go.Proofs.Ytpjopeojeglogaa

namespace Go.Proofs.Ytpjopeojeglogaa
open Go.RowKit Tt
set_option linter.unusedVariables false
set_option linter.unusedSimpArgs false

theorem at_lt {a h n j : Nat} (ha : 1 ≤ a) (hh : 1 ≤ h) : n % a * h + j % h < a * h := row_lt (Nat.mod_lt n ha) (Nat.mod_lt j hh)
theorem at_row {a h v n j : Nat} (ha : 1 ≤ a) (hh : 1 ≤ h) : atU a h v n j / (a * h) = n / a * v + j / h := by
  unfold atU; rw [Nat.mul_assoc, Nat.mul_comm _ (a * h), Nat.mul_add_div (Nat.mul_pos ha hh), Nat.div_eq_of_lt (at_lt ha hh), Nat.add_zero]
theorem at_col {a h v n j : Nat} (ha : 1 ≤ a) (hh : 1 ≤ h) : atU a h v n j % (a * h) = n % a * h + j % h := by
  unfold atU; rw [Nat.mul_assoc, Nat.mul_comm _ (a * h), Nat.mul_add_mod, Nat.mod_eq_of_lt (at_lt ha hh)]
theorem quo_add {q r v : Nat} (hv : r < v) : (q * v + r) / v = q ∧ (q * v + r) % v = r := by
  rw [Nat.mul_comm]; exact ⟨by rw [Nat.mul_add_div (by omega), Nat.div_eq_of_lt hv, Nat.add_zero], by rw [Nat.mul_add_mod, Nat.mod_eq_of_lt hv]⟩
theorem at_unit {a h v n j : Nat} (ha : 1 ≤ a) (hh : 1 ≤ h) (hj : j < h * v) : atU a h v n j / (a * h) / v * a + atU a h v n j % (a * h) / h = n := by
  rw [at_row ha hh, at_col ha hh, (quo_add (div_lt hj)).1, (quo_add (Nat.mod_lt j hh)).1]; rw [Nat.mul_comm]; exact Nat.div_add_mod n a
theorem at_j {a h v n j : Nat} (ha : 1 ≤ a) (hh : 1 ≤ h) (hj : j < h * v) : atU a h v n j / (a * h) % v * h + atU a h v n j % (a * h) % h = j := by
  rw [at_row ha hh, at_col ha hh, (quo_add (div_lt hj)).2, (quo_add (Nat.mod_lt j hh)).2]; rw [Nat.mul_comm]; exact Nat.div_add_mod j h
/-- a block of a unit: its plane, and which of its blocks it is -/
theorem unit_mem {a n : Nat} {ps : List PtM} {x : Nat × Nat} (hx : x ∈ unitS a ps n) : ∃ p j, ps[x.1]? = some p ∧ j < p.1.toNat * p.2.1.toNat ∧ x.2 = atU a p.1.toNat p.2.1.toNat n j := by
  unfold unitS at hx; obtain ⟨l, hl, hxl⟩ := List.mem_flatten.1 hx; obtain ⟨⟨p, k⟩, hpk, rfl⟩ := List.mem_map.1 hl; have hk : ps[k]? = some p := List.mem_zipIdx_iff_getElem?.1 hpk; unfold unitP at hxl; obtain ⟨j, hj, rfl⟩ := List.mem_map.1 hxl; exact ⟨p, j, hk, List.mem_range.1 hj, rfl⟩
def PtsOk (ps : List PtM) : Prop := ∀ (k : Nat) p, ps[k]? = some p → 1 ≤ p.1.toNat ∧ 1 ≤ p.2.1.toNat
def Up (x y : Nat × Nat) : Prop := x.1 ≤ y.1 ∧ x ≠ y
theorem unitP_up {a n k : Nat} {p : PtM} (ha : 1 ≤ a) (hh : 1 ≤ p.1.toNat) : (unitP a n k p).Pairwise Up := by
  unfold unitP; rw [List.pairwise_map]; refine List.Pairwise.imp_of_mem (R := fun i j => i < j) (fun {i j} hi hj hij => ?_) List.pairwise_lt_range; have hi := List.mem_range.1 hi; have hj := List.mem_range.1 hj; refine ⟨Nat.le_refl _, fun e => ?_⟩; have e2 : atU a p.1.toNat p.2.1.toNat n i = atU a p.1.toNat p.2.1.toNat n j := congrArg Prod.snd e; have h1 := at_j (n := n) ha hh hi; have h2 := at_j (n := n) ha hh hj; rw [e2] at h1
  omega
theorem unitS_up {a n : Nat} {ps : List PtM} (ha : 1 ≤ a) (hp : PtsOk ps) : (unitS a ps n).Pairwise Up := by
  unfold unitS; rw [List.pairwise_flatten]
  constructor
  · intro l hl
    obtain ⟨⟨p, k⟩, hpk, rfl⟩ := List.mem_map.1 hl; exact unitP_up ha (hp k p (List.mem_zipIdx_iff_getElem?.1 hpk)).1
  · rw [List.pairwise_map, List.pairwise_iff_getElem]
    intro i j hi hj hij x hx y hy; have e1 : (ps.zipIdx[i]).2 = i := by simp
    have e2 : (ps.zipIdx[j]).2 = j := by simp
    unfold unitP at hx hy; obtain ⟨q, _, rfl⟩ := List.mem_map.1 hx; obtain ⟨r, _, rfl⟩ := List.mem_map.1 hy; unfold plU; rw [e1, e2]; exact ⟨Nat.le_of_lt hij, fun e => Nat.ne_of_lt hij (congrArg Prod.fst e)⟩
def unitN (ps : List PtM) : Nat := (ps.map fun p => p.1.toNat * p.2.1.toNat).sum
theorem unitS_many (a n : Nat) (ps : List PtM) : (unitS a ps n).length = unitN ps := by
  unfold unitS unitN; rw [List.length_flatten, List.map_map]
  have : (List.length ∘ fun x : PtM × Nat => unitP a n x.2 x.1) = (fun p : PtM => p.1.toNat * p.2.1.toNat) ∘ Prod.fst := by
    funext x
    simp [unitP]
  rw [this, ← List.map_map]
  simp
theorem unitsS_len (a n : Nat) (ps : List PtM) : (unitsS a ps n).length = n * unitN ps := by
  induction n with
  | zero => simp [unitsS]
  | succ n ih => rw [unitsS_snoc, List.length_append, ih, unitS_many, Nat.succ_mul]
theorem unitsS_get {a U : Nat} {ps : List PtM} (hU : unitN ps = U) (N : Nat) : ∀ {k : Nat}, k < N * U → (unitsS a ps N)[k]? = (unitS a ps (k / U))[k % U]? := by
  induction N with
  | zero => intro k hk; omega
  | succ N ih =>
    intro k hk; rw [unitsS_snoc]; have hl := unitsS_len a N ps; rw [hU] at hl
    rcases Nat.lt_or_ge k (N * U) with h | h
    · rw [List.getElem?_append_left (by omega)]; exact ih h
    · rw [List.getElem?_append_right (by omega), hl]
      rw [Nat.succ_mul] at hk; have hU0 : 0 < U := by omega
      have e1 : k / U = N := by
        rw [show k = U * N + (k - N * U) by rw [Nat.mul_comm U N]; omega, Nat.mul_add_div hU0, Nat.div_eq_of_lt (by omega), Nat.add_zero]
      have e2 : k % U = k - N * U := by
        conv => lhs; rw [show k = U * N + (k - N * U) by rw [Nat.mul_comm U N]; omega]
        rw [Nat.mul_add_mod, Nat.mod_eq_of_lt (by omega)]
      rw [e1, e2]
theorem unitsS_nodup {a : Nat} {ps : List PtM} (ha : 1 ≤ a) (hp : PtsOk ps) (N : Nat) : (unitsS a ps N).Pairwise (· ≠ ·) := by
  unfold unitsS; rw [List.pairwise_flatten]
  constructor
  · intro l hl
    obtain ⟨n, _, rfl⟩ := List.mem_map.1 hl; exact (unitS_up ha hp).imp fun h => h.2
  · rw [List.pairwise_map]
    refine List.pairwise_lt_range.imp fun {i j} hij x hx y hy e => ?_; subst e; obtain ⟨p, q, h1, h2, h3⟩ := unit_mem hx; obtain ⟨p', q', k1, k2, k3⟩ := unit_mem hy; rw [h1] at k1; injection k1 with k1; subst k1; have hpp := hp _ _ h1; have e1 := at_unit (n := i) ha hpp.1 h2; have e2 := at_unit (n := j) ha hpp.1 k2; rw [← h3] at e1; rw [← k3] at e2
    omega
end Go.Proofs.Ytpjopeojeglogaa
