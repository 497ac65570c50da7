/- Chapter 12: a symbol written: the program's first closure. | Chapter 12: a symbol read: the program. | Chapter 12: a block read: the program. -/
import Derived.Test.YtpjopeojeglogaaCs19
import Derived.Test.YtpjopeojeglogaaCs21
namespace Go.Proofs.Ytpjopeojeglogaa
open Go.RowKit Tt
set_option linter.unusedVariables false
set_option linter.unusedSimpArgs false

/-- the class of worlds in which facts hold -/
theorem fact_worlds (C : World → Prop) (w : World) (h : C w) : ∃ (S : Type) (f : S → World), Nonempty S ∧ (∀ s, C (f s)) ∧ ∀ W, C W → ∃ s, W = f s :=
  ⟨{W : World // C W}, Subtype.val, ⟨⟨w, h⟩⟩, fun s => s.2, fun W h => ⟨⟨W, h⟩, rfl⟩⟩
theorem tab_cell {w : World} {a : Option Addr} {pn c : Nat} {tl : List (Nat × Nat)} (h : Sl w a pn c 2 (tabsC tl)) {part : Nat} {x : Nat × Nat} (hx : tl[part]? = some x) (hp : part < pn) :
    ∃ g o, a = some ⟨g, o, none⟩ ∧ g < w.heap.size ∧ w.cell? ⟨g, o + part * 2, none⟩ = some (.pointer (some ⟨x.1, 0, none⟩)) ∧ w.cell? ⟨g, o + part * 2 + 1, none⟩ = some (.pointer (some ⟨x.2, 0, none⟩)) := by
  obtain ⟨g, o, e, hg, _, hc⟩ := h.elem hp; unfold tabsC at hc; rw [flat_elem tabC 2 tl (fun q hq => rfl) part x hx] at hc; exact ⟨g, o, e, hg, hc 0 _ rfl, hc 1 _ rfl⟩
theorem TbP.part {w : World} {p : PtM} {x : Nat × Nat} (h : TbP w p x) : TbM w x.1 p.2.2.1.1.1 p.2.2.1.1.2 ∧ TbM w x.2 p.2.2.2.1.1 p.2.2.2.1.2 := ⟨h.dc, h.ac⟩
set_option maxRecDepth 20000 in
set_option maxHeartbeats 2000000 in
theorem wput1_any (S : Nat → Prop) (g6 g8 wb : Nat) (a : Option Addr) (pn c : Nat) (tl : List (Nat × Nat)) (ps : List PtM) (L : List Int) (part : Nat) (x : Cod) (A : Array Value) (w : World) (hA : (ints .i64 (cdL x)).toArray = A)
    (b6 : Blk w g6 130 #[.slice a pn c]) (hrow : Sl w a pn c 2 (tabsC tl)) (htb : TbsA w ps tl) (hlt : tl.length = pn) (hps : ps.length = pn) (b8 : Blk w g8 123 #[.pointer (some ⟨wb, 0, none⟩)]) (hw : Wl S w wb L)
    (hS : ∀ k, S k → k < w.heap.size) (n6 : ¬ S g6) (n8 : ¬ S g8) (nr : ∀ y, a = some y → ¬ S y.block) (hp : part < pn) (hx : CodOk x) (hL : L.length ≤ 7000000) :
    Calls Try.prog 91 #[.int .i64 part, .agg A, .pointer (some ⟨g6, 0, none⟩), .pointer (some ⟨g8, 0, none⟩)] w fun e w' =>
      ((∃ X, codeA ps part x = some X ∧ e = .returned (.int .i64 0) ∧ Wl (Sx S w w') w' wb (L ++ lowS X.1 X.2 ++ lowS x.2.2.1 x.2.2.2.toNat)) ∨ (codeA ps part x = none ∧ e = .returned (.int .i64 2))) ∧ Mo S w w' := by
  obtain ⟨p, hpp⟩ : ∃ p, ps[part]? = some p := ⟨_, List.getElem?_eq_getElem (by omega)⟩; obtain ⟨y, hy⟩ : ∃ y, tl[part]? = some y := ⟨_, List.getElem?_eq_getElem (by omega)⟩; obtain ⟨g, o, rfl, hg, hc0, hc1⟩ := tab_cell hrow hy hp; obtain ⟨ht0, ht1⟩ := (htb part p y hpp hy).part; have hwf := hx.wf; obtain ⟨ac, sy, V, N⟩ := x; obtain ⟨hac, _, _, hV0, hV1, hN0, hN1⟩ := hx; simp only at hac hV0 hV1 hN0 hN1; obtain ⟨n, rfl⟩ : ∃ n : Nat, N = n := ⟨N.toNat, by omega⟩; obtain ⟨k, rfl⟩ : ∃ n : Nat, ac = n := ⟨ac.toNat, by omega⟩; have hk2 : k < 2 := by omega
  have hsy : (Lit.int .i64 sy).wf = true := hwf sy (by simp [cdL]); obtain rfl : #[.int .i64 (k : Int), .int .i64 sy, .int .i64 V, .int .i64 (n : Int)] = A := hA
  obtain ⟨tb, cs, ss, hcell, hT, hcq⟩ : ∃ tb cs ss, w.cell? ⟨g, o + part * 2 + k, none⟩ = some (.pointer (some ⟨tb, 0, none⟩)) ∧ TbM w tb cs ss ∧ codeA ps part ((k : Int), sy, V, (n : Int)) = codeS cs ss sy := by
    unfold codeA codeP; rw [hpp]
    rcases (show k = 0 ∨ k = 1 by omega) with rfl | rfl
    · exact ⟨_, _, _, hc0, ht0, rfl⟩
    · exact ⟨_, _, _, hc1, ht1, rfl⟩
  clear hwf hac hc0 hc1 ht0 ht1 htb hrow hy hpp; have hal := (Below.refl w.heap.size w).alloc (Nat.le_refl _) (.cells #[.int .i64 (k : Int), .int .i64 sy, .int .i64 V, .int .i64 (n : Int)] 133); have bx := Blk.new w 133 #[.int .i64 (k : Int), .int .i64 sy, .int .i64 V, .int .i64 (n : Int)]; obtain ⟨W1, hW1⟩ : ∃ W, w.alloc (.cells #[.int .i64 (k : Int), .int .i64 sy, .int .i64 V, .int .i64 (n : Int)] 133) = W := ⟨_, rfl⟩; rw [hW1] at hal bx; have hszW : w.heap.size < W1.heap.size := bx.lt; have hD1 := (Below.refl W1.heap.size W1).drew; obtain ⟨wD, hwD⟩ : ∃ W, W1.drew = W := ⟨_, rfl⟩; rw [hwD] at hD1; have hD := hal.trans (hD1.mono hal.size); have hwD8 := hw.late hD; have bx := bx.late hD1; have b8 := b8.late hD; have b6 := b6.late hD; have hcellD : wD.cell? ⟨g, o + part * 2 + k, none⟩ = some (.pointer (some ⟨tb, 0, none⟩)) := (hD.cell hg).trans hcell; have nx : ¬ S w.heap.size := fun h => by have := hS _ h; omega
  have ng : ¬ S g := nr _ rfl; have hgD : g < wD.heap.size := Nat.lt_of_lt_of_le hg hD.size; obtain ⟨Ty, ff, hne, hpr, hsurj⟩ := fact_worlds (fun W => W.cell? ⟨g6, 0, none⟩ = some (.slice (some ⟨g, o, none⟩) pn c) ∧ W.cell? ⟨g, o + part * 2 + k, none⟩ = some (.pointer (some ⟨tb, 0, none⟩)) ∧ W.cell? ⟨g8, 0, none⟩ = some (.pointer (some ⟨wb, 0, none⟩)) ∧ W.cell? ⟨w.heap.size, 0, none⟩ = some (.int .i64 (k : Int)) ∧ W.cell? ⟨w.heap.size, 1, none⟩ = some (.int .i64 sy)) wD ⟨b6.cell rfl, hcellD, b8.cell rfl, bx.cell rfl, bx.cell rfl⟩; have HS := Lib.hid (hsurj wD ⟨b6.cell rfl, hcellD, b8.cell rfl, bx.cell rfl, bx.cell rfl⟩); have hnext : ∀ W, Mo S wD W → ∃ s, W = ff s := fun W m => hsurj W ⟨(b6.mo m n6).cell rfl, (m.cell (p := ⟨g, o + part * 2 + k, none⟩) hgD ng).trans hcellD, (b8.mo m n8).cell rfl, (bx.mo m nx).cell rfl, (bx.mo m nx).cell rfl⟩; have z0 := fun s => (hpr s).1; have z1 := fun s => (hpr s).2.1; have z2 := fun s => (hpr s).2.2.1; have z3 := fun s => (hpr s).2.2.2.1; have z4 := fun s => (hpr s).2.2.2.2; obtain ⟨q, hq⟩ : ∃ q, codeS cs ss sy = q := ⟨_, rfl⟩; have hcod := hcq.trans hq; have hP := tput_any S tb wb cs ss L sy wD (hT.below (B := 0) hD) hsy hwD8 (by omega)
  have hlow : ∀ X, q = some X → (L ++ lowS X.1 X.2).length ≤ 8000000 := fun X h => by
    have := (codeS_bits (hq.trans h)).2.1; rw [List.length_append, lowS_len]; omega
  rw [hq] at hP; clear hpr hcell hcellD hcq hq hT hD1; have hP' := Lib.hid hP; have hD' := Lib.hid hD; have hsurj' := Lib.hid hsurj; have hnext' := Lib.hid hnext; have hcod' := Lib.hid hcod; have hlow' := Lib.hid hlow; have hS' := Lib.hid hS; have n8' := Lib.hid n8; have n6' := Lib.hid n6; have nx' := Lib.hid nx; have ng' := Lib.hid ng; have hgD' := Lib.hid hgD; have bx' := Lib.hid bx; have b8' := Lib.hid b8; have b6' := Lib.hid b6; have hW1' := Lib.hid hW1; have hwD' := Lib.hid hwD; have hszW' := Lib.hid hszW; have hal' := Lib.hid hal; have hwD8' := Lib.hid hwD8; have hg' := Lib.hid hg; clear hP hD hsurj hnext hcod hlow hS n8 n6 nx ng hgD bx b8 b6 hW1 hwD hszW hal hwD8 hg
  go_enter Try.func91, Try.ntmps91
  go_upto_region 1 with fail
  rw [hW1'.out]; refine held_begin (S := fun W => ∃ s, W = ff s) (by kernel_rfl) 12 rfl ?_; rw [hwD'.out]; refine held_take [0, 1, 2, 3, 4, 5, 6, 7, 8, 9] 2 (by kernel_rfl) (fun d _ _ _ _ h => by cases d <;> exact h) (by kernel_rfl) (by kernel_rfl) (by kernel_rfl) HS.out ?_; simp only [pickL, List.map_cons, List.map_nil, List.getD_cons_succ, List.getD_cons_zero]
  iterate 10 (go_big_quiet_step (fail))
  refine wpQuiet_nil ?_; refine held_one 10 1 (by kernel_rfl) (by kernel_rfl) ?_; simp only [pickL, List.map_cons, List.map_nil, List.getD_cons_succ, List.getD_cons_zero]
  go_wp2_with fail
  refine hP'.out.mono ?_; rintro e w3 ⟨rfl, hW3, hm3⟩; have HS3 := Lib.hid (hnext'.out w3 hm3); have b3 := b8'.out.mo hm3 n8'.out; have x3 := bx'.out.mo hm3 nx'.out; have f3 : w3.cell? ⟨g8, 0, none⟩ = some (.pointer (some ⟨wb, 0, none⟩)) := b3.cell rfl; have f4 : w3.cell? ⟨w.heap.size, 2, none⟩ = some (.int .i64 V) := x3.cell rfl; have f5 : w3.cell? ⟨w.heap.size, 3, none⟩ = some (.int .i64 (n : Int)) := x3.cell rfl; clear b3 x3; have hW3' := Lib.hid hW3; have hm3' := Lib.hid hm3; clear hW3 hm3
  go_wp2_with fail
  refine Mid.mk ⟨HS3.out, ?_⟩; refine held_one 11 0 (by kernel_rfl) (by kernel_rfl) ?_; simp only [pickL, List.map_cons, List.map_nil, List.getD_cons_succ, List.getD_cons_zero]
  go_wp2_with fail
  refine Mid.mk ⟨HS3.out, ?_⟩; refine held_last (by kernel_rfl) ?_
  cases q with
  | none =>
    go_wp2_with fail
    go_ret
    exact ⟨.inr ⟨hcod'.out, rfl⟩, (Mo.of_below hD'.out).trans hm3'.out fun _ _ e => e⟩
  | some X =>
    have hL3 := hlow'.out X rfl; have hW3b := hW3'.out; unfold bitsQ at hW3b; have hP4 := wput_any (Sx S wD w3) wb (L ++ lowS X.1 X.2) V n w3 hW3b (by omega) hL3; clear hW3b; have hP4' := Lib.hid hP4; clear hP4
    go_wp2_with fail
    refine hP4'.out.mono ?_; rintro e w4 ⟨rfl, hW4, hm4⟩; have hm5 := hm3'.out.more hm4; have hW4' := Lib.hid hW4; have hm4' := Lib.hid hm4; have hm5' := Lib.hid hm5; clear hW4 hm4 hm5
    go_wp2_with fail
    go_ret
    refine ⟨.inl ⟨X, hcod'.out, rfl, ?_⟩, (Mo.of_below hD'.out).trans hm5'.out fun _ _ e => e⟩; rw [Int.toNat_natCast]; refine hW4'.out.sub fun k hk => ?_
    rcases hk.twice hm3'.out.size hm4'.out.size with hk | hk
    · exact .inl hk
    · exact .inr ⟨by have := hD'.out.size; omega, hk.2⟩
end Go.Proofs.Ytpjopeojeglogaa

namespace Go.Proofs.Ytpjopeojeglogaa
open Go.RowKit Tt
set_option linter.unusedVariables false
set_option linter.unusedSimpArgs false

/-- a reader's fields -/
def rdrC (s : ScT) (pa : Option Addr) (pn pc : Nat) (ta : Option Addr) (tc : Nat) (ra : Option Addr) (rn rc : Nat) (q : Option Addr) (gl : Nat) : Array Value :=
  #[.int .i64 s.ax, .int .i64 s.dn, .slice pa pn pc, .int .i64 s.iv, .slice ta pn tc, .slice ra rn rc, .pointer q, .slice (some ⟨gl, 0, none⟩) pn pn]
theorem nextS_sym {c s l : List Int} {x : Int} {n : Nat} (hm : hMay c s = true) (h : nextS c s l = some (x, n)) : 0 ≤ x ∧ x ≤ 255 := by
  obtain ⟨_, _, _, i, hi, rfl, _⟩ := nextS_le hm h; have := (CntOk.of hm).2.2.2.2 i hi; have h1 := symOk_iff.1 this
  omega
/-- what a table of a plane tells next -/
def nextP (p : PtM) (ac : Nat) (B : List Int) : Option (Int × Nat) := if ac = 0 then nextS p.2.2.1.1.1 p.2.2.1.1.2 B else nextS p.2.2.2.1.1 p.2.2.2.1.2 B
theorem symbR_none {p : PtM} {ac : Nat} {B : List Int} (h : nextP p ac B = none) : symbR p ac B = none := by
  unfold symbR; unfold nextP at h; rw [h]; rfl
theorem symbR_bad {p : PtM} {ac k : Nat} {B : List Int} {y : Int} (h : nextP p ac B = some (y, k)) (hb : 11 < y % 16 ∨ B.length < k + (y % 16).toNat) : symbR p ac B = none := by
  unfold symbR; unfold nextP at h; rw [h]; exact if_pos hb
theorem symbR_ok {p : PtM} {ac k : Nat} {B : List Int} {y : Int} (h : nextP p ac B = some (y, k)) (hb : ¬ (11 < y % 16 ∨ B.length < k + (y % 16).toNat)) : symbR p ac B = some (((ac : Int), y, numL ((B.drop k).take (y % 16).toNat), y % 16), k + (y % 16).toNat) := by
  unfold symbR; unfold nextP at h; rw [h]; exact if_neg hb
theorem but_new {b g : Nat} {w w' : World} (h : But b w w') (hg : w.heap.size ≤ g) (cs : Array Value) : But b w (w'.setRow g cs) :=
  ⟨h.os, h.tape, h.output, by rw [show (w'.setRow g cs).heap.size = w'.heap.size by simp [World.setRow]]; exact h.size, fun k hk hne => (setRow_other w' g k cs (by omega)).trans (h.block k hk hne)⟩
theorem rb_row {w : World} {rb g : Nat} {a : Option Addr} {n c : Nat} {D : List Int} {i : Nat} (h : Rb w rb a n c D i) (hg : g ≠ rb) (hx : ∀ x, a = some x → x.block ≠ g) (cs : Array Value) : Rb (w.setRow g cs) rb a n c D i := h.but (but_rowH (b := g) w cs) (Ne.symm hg) hx
set_option maxRecDepth 20000 in
set_option maxHeartbeats 2000000 in
theorem symbol_any (s : ScT) (pa : Option Addr) (pn pc : Nat) (ta : Option Addr) (tc : Nat) (ra : Option Addr) (rn rc rb gl rr : Nat) (tl : List (Nat × Nat)) (a : Option Addr) (n c : Nat) (D : List Int) (i part k : Nat) (p : PtM) (w : World)
    (hr : Blk w rr 152 (rdrC s pa pn pc ta tc ra rn rc (some ⟨rb, 0, none⟩) gl)) (hrow : Sl w ta pn tc 2 (tabsC tl)) (htb : TbsA w s.ps tl) (hlt : tl.length = pn) (hb : Rb w rb a n c D i) (hn1 : rb ≠ rr) (hn2 : ∀ y, ta = some y → y.block ≠ rb)
    (hp : s.ps[part]? = some p) (hpn : part < pn) (hk : k < 2) :
    Calls Try.prog 150 #[.pointer (some ⟨rr, 0, none⟩), .int .i64 part, .int .i64 k] w fun e w' =>
      ((symbR p k ((bitsS D).drop i) = none ∧ ∃ L : List Int, L.length = 4 ∧ e = .returned (.tuple #[.agg (ints .i64 L).toArray, .bool false])) ∨
        ∃ x m, symbR p k ((bitsS D).drop i) = some (x, m) ∧ e = .returned (.tuple #[.agg (ints .i64 (cdL x)).toArray, .bool true]) ∧ Rb w' rb a n c D (i + m)) ∧ But rb w w' := by
  obtain ⟨y, hy⟩ : ∃ y, tl[part]? = some y := ⟨_, List.getElem?_eq_getElem (by omega)⟩; obtain ⟨g, o, rfl, hg, hc0, hc1⟩ := tab_cell hrow hy hpn; obtain ⟨ht0, ht1⟩ := (htb part p y hp hy).part; have hn2 := hn2 _ rfl
  obtain ⟨tb, cs, ss, hcell, hT, hcq⟩ : ∃ tb cs ss, w.cell? ⟨g, o + part * 2 + k, none⟩ = some (.pointer (some ⟨tb, 0, none⟩)) ∧ TbM w tb cs ss ∧ nextP p k ((bitsS D).drop i) = nextS cs ss ((bitsS D).drop i) := by
    unfold nextP
    rcases (show k = 0 ∨ k = 1 by omega) with rfl | rfl
    · exact ⟨_, _, _, hc0, ht0, rfl⟩
    · exact ⟨_, _, _, hc1, ht1, rfl⟩
  clear hc0 hc1 ht0 ht1 htb hrow hy; have hmay := hT.may; have hal := (Below.refl w.heap.size w).alloc (Nat.le_refl _) (.cells #[.int .i64 0, .int .i64 0, .int .i64 0, .int .i64 0] 133); have bx := Blk.new w 133 #[.int .i64 0, .int .i64 0, .int .i64 0, .int .i64 0]; obtain ⟨W1, hW1⟩ : ∃ W, w.alloc (.cells #[.int .i64 0, .int .i64 0, .int .i64 0, .int .i64 0] 133) = W := ⟨_, rfl⟩; rw [hW1] at hal bx; have hD1 := (Below.refl W1.heap.size W1).drew; obtain ⟨wD, hwD⟩ : ∃ W, W1.drew = W := ⟨_, rfl⟩; rw [hwD] at hD1; have hD := hal.trans (hD1.mono hal.size); have bx := bx.late hD1; have hrD := hr.late hD; have hbD := hb.later hD; have hgD : g < wD.heap.size := Nat.lt_of_lt_of_le hg hD.size; have hrbl : rb < w.heap.size := hb.blk.lt; have hax : ∀ x, a = some x → x.block ≠ w.heap.size := fun x hx => by have := hb.lt x hx; omega
  unfold rdrC at hrD; obtain ⟨Ty, ff, hne, hpr, hsurj⟩ := pr_worlds (fun W => W.cell? ⟨rr, 4, none⟩ = some (.slice (some ⟨g, o, none⟩) pn tc) ∧ W.cell? ⟨rr, 6, none⟩ = some (.pointer (some ⟨rb, 0, none⟩)) ∧ W.cell? ⟨g, o + part * 2 + k, none⟩ = some (.pointer (some ⟨tb, 0, none⟩))) wD ⟨hrD.cell rfl, hrD.cell rfl, (hD.cell hg).trans hcell⟩; have HS := Lib.hid (hsurj wD ⟨hrD.cell rfl, hrD.cell rfl, (hD.cell hg).trans hcell⟩); have hnext : ∀ W, But rb wD W → ∃ s, W = ff s := fun W m => hsurj W ⟨(hrD.but m (Ne.symm hn1)).cell rfl, (hrD.but m (Ne.symm hn1)).cell rfl, ((m.cell (p := ⟨g, o + part * 2 + k, none⟩) hgD hn2).trans (hD.cell hg)).trans hcell⟩; have z0 := fun s => (hpr s).1; have z1 := fun s => (hpr s).2.1; have z2 := fun s => (hpr s).2.2; have HT := ttake_any tb rb cs ss a n c D i wD (hT.below (B := 0) hD) hbD; clear hpr hsurj hcell hT hal hr hb; have hax' := Lib.hid hax; have hcq' := Lib.hid hcq; have hmay' := Lib.hid hmay; have hW1' := Lib.hid hW1; have hD1' := Lib.hid hD1; have hwD' := Lib.hid hwD; have hD' := Lib.hid hD; have bx' := Lib.hid bx; have hrD' := Lib.hid hrD; have hbD' := Lib.hid hbD; have hgD' := Lib.hid hgD; have hrbl' := Lib.hid hrbl; have hnext' := Lib.hid hnext; have HT' := Lib.hid HT; have hn1' := Lib.hid hn1; have hn2' := Lib.hid hn2; have hg' := Lib.hid hg; clear hax hcq hmay hW1 hD1 hwD hD bx hrD hbD hgD hrbl hnext HT hn1 hn2 hg
  go_enter Try.func150, Try.ntmps150
  go_upto_region 1 with fail
  rw [hW1'.out]; refine held_begin (S := fun W => ∃ s, W = ff s) (by kernel_rfl) 19 rfl ?_; rw [hwD'.out]; refine held_take [0, 1, 2, 3, 4, 5, 6, 7, 8, 9, 10, 11, 12] 6 (by kernel_rfl) (fun d _ _ _ _ h => by cases d <;> exact h) (by kernel_rfl) (by kernel_rfl) (by kernel_rfl) HS.out ?_; simp only [pickL, List.map_cons, List.map_nil, List.getD_cons_succ, List.getD_cons_zero]
  iterate 13 (go_big_quiet_step (fail))
  refine wpQuiet_nil ?_; clear z0 z1 z2; refine held_one 13 5 (by kernel_rfl) (by kernel_rfl) ?_; simp only [pickL, List.map_cons, List.map_nil, List.getD_cons_succ, List.getD_cons_zero]
  go_wp2_with fail
  refine HT'.out.mono ?_; rintro e w3 ⟨hres, hbt3⟩; have HS3 := Lib.hid (hnext'.out w3 hbt3); have bx3 := bx'.out.but hbt3 (by have := hrbl'.out; omega); have hr3 := hrD'.out.but hbt3 (Ne.symm hn1'.out); have hbt := (But.of_below hD'.out).trans hbt3
  obtain ⟨yy, ok, hval, hcase⟩ : ∃ (yy : Int) (ok : Bool), e = .returned (.tuple #[.int .i64 yy, .bool ok]) ∧ ((ok = false ∧ nextP p k ((bitsS D).drop i) = none) ∨ (ok = true ∧ ∃ m, nextP p k ((bitsS D).drop i) = some (yy, m) ∧ 0 ≤ yy ∧ yy ≤ 255 ∧ Rb w3 rb a n c D (i + m))) := by
    rcases hres with ⟨h1, h2, _⟩ | ⟨x, m, h1, h2, h3⟩
    · exact ⟨0, false, h2, .inl ⟨rfl, hcq'.out.trans h1⟩⟩
    · obtain ⟨h4, h5⟩ := nextS_sym hmay'.out h1
      exact ⟨x, true, h2, .inr ⟨rfl, m, hcq'.out.trans h1, h4, h5, h3⟩⟩
  subst hval; clear hres hbt3; have bx3' := Lib.hid bx3; have hr3' := Lib.hid hr3; have hbt' := Lib.hid hbt; have hcase' := Lib.hid hcase; clear bx3 hr3 hbt hcase
  go_wp2_with fail
  refine Mid.mk ⟨HS3.out, ?_⟩; refine held_one 14 4 (by kernel_rfl) (by kernel_rfl) ?_; simp only [pickL, List.map_cons, List.map_nil, List.getD_cons_succ, List.getD_cons_zero]
  go_wp2_with fail
  refine Mid.mk ⟨HS3.out, ?_⟩; have HS := HS3; refine held_take [15, 16] 2 (by kernel_rfl) (fun d _ _ _ _ h => by cases d <;> exact h) (by kernel_rfl) (by kernel_rfl) (by kernel_rfl) HS.out ?_; simp only [pickL, List.map_cons, List.map_nil, List.getD_cons_succ, List.getD_cons_zero]
  iterate 2 (go_big_quiet_step (fail))
  refine wpQuiet_nil ?_; refine held_one 17 1 (by kernel_rfl) (by kernel_rfl) ?_; simp only [pickL, List.map_cons, List.map_nil, List.getD_cons_succ, List.getD_cons_zero]
  go_wp2_with fail
  refine Mid.mk ⟨HS3.out, ?_⟩; refine held_one 18 0 (by kernel_rfl) (by kernel_rfl) ?_; simp only [pickL, List.map_cons, List.map_nil, List.getD_cons_succ, List.getD_cons_zero]
  go_wp2_with fail
  refine Mid.mk ⟨HS3.out, ?_⟩; refine held_last (by kernel_rfl) ?_; clear HS HS3 HT' hnext'; have k6 : w3.cell? ⟨rr, 6, none⟩ = some (.pointer (some ⟨rb, 0, none⟩)) := hr3'.out.cell rfl; have hgx : w.heap.size ≠ rb := by have := hrbl'.out; omega
  rcases hcase'.out with ⟨rfl, hno⟩ | ⟨rfl, m, hyes, hy0, hy1, hb3⟩
  · have hfin := symbR_none hno
    have hfin' := Lib.hid hfin; clear hfin; clear k6
    go_wp2_with (refine wpList_store_row rfl 133 (.tmp 6) (.tmp 35) rfl w.heap.size #[.int .i64 0, .int .i64 0, .int .i64 0, .int .i64 0] rfl rfl 133 _ (bx3'.out) (by kernel_rfl) rfl (by kernel_rfl) ?_)
    go_wp2
    refine bodyPost_ret (results_blk_tmp rfl _ _ w.heap.size 133 #[.int .i64 0, .int .i64 0, .int .i64 0, .int .i64 0] _ rfl (Blk.rowH (bx3'.out) _) Try.underlying133 rfl (by kernel_rfl)) rfl ?_; exact ⟨.inl ⟨hfin'.out, [0, 0, 0, 0], rfl, rfl⟩, but_new (hbt'.out) (Nat.le_refl _) _⟩
  · have ha := and_low4 hy0 hy1
    have hm0 := Int.emod_nonneg yy (show (16 : Int) ≠ 0 by decide); have hm1 := Int.emod_lt_of_pos yy (show (0 : Int) < 16 by decide); obtain ⟨z, hz⟩ : ∃ z : Nat, yy % 16 = z := ⟨(yy % 16).toNat, by omega⟩; have hbad := fun h => symbR_bad hyes h; have hok := fun h => symbR_ok hyes h; rw [hz] at ha hbad hok hm0 hm1; rw [Int.toNat_natCast] at hbad hok; have hi3 := hb3.le; have hlD : ((bitsS D).drop i).length = 8 * n - i := by rw [List.length_drop, bitsS_len, hb3.sl.ilen]
    by_cases c1 : (11 : Int) < z
    · have hfin := hbad (.inl c1)
      clear hbad hok k6 hz hi3 hlD hyes; have hfin' := Lib.hid hfin; have hb3' := Lib.hid hb3; clear hfin hb3
      go_wp2_with (refine wpList_store_row rfl 133 (.tmp 6) (.tmp 35) rfl w.heap.size #[.int .i64 0, .int .i64 0, .int .i64 0, .int .i64 0] rfl rfl 133 _ (bx3'.out) (by kernel_rfl) rfl (by kernel_rfl) ?_)
      go_wp2
      refine bodyPost_ret (results_blk_tmp rfl _ _ w.heap.size 133 #[.int .i64 0, .int .i64 0, .int .i64 0, .int .i64 0] _ rfl (Blk.rowH (bx3'.out) _) Try.underlying133 rfl (by kernel_rfl)) rfl ?_; exact ⟨.inl ⟨hfin'.out, [0, 0, 0, 0], rfl, rfl⟩, but_new (hbt'.out) (Nat.le_refl _) _⟩
    · by_cases c2 : 8 * n < i + m + z
      · have hfin := hbad (.inr (by omega))
        have HK := rtake_no rb a n c D (i + m) z w3 hb3 (by omega) c2; clear hbad hok hz hi3 hlD hyes hm0 hm1; have hfin' := Lib.hid hfin; have hb3' := Lib.hid hb3; have HK' := Lib.hid HK; clear hfin hb3 HK
        go_wp2_with fail
        refine HK'.out.mono ?_; rintro e w4 ⟨rfl, hq4⟩; have hbt4 := hbt'.out.qt hq4; have bx4 := bx3'.out.late (hq4.below _); clear k6 hq4; have hbt4' := Lib.hid hbt4; have bx4' := Lib.hid bx4; clear hbt4 bx4
        go_wp2_with (refine wpList_store_row rfl 133 (.tmp 6) (.tmp 52) rfl w.heap.size #[.int .i64 (k : Int), .int .i64 yy, .int .i64 0, .int .i64 (z : Int)] rfl rfl 133 _ bx4'.out (by kernel_rfl) rfl (by kernel_rfl) ?_)
        go_wp2
        refine bodyPost_ret (results_blk_tmp rfl _ _ w.heap.size 133 #[.int .i64 (k : Int), .int .i64 yy, .int .i64 0, .int .i64 (z : Int)] _ rfl (Blk.rowH bx4'.out _) Try.underlying133 rfl (by kernel_rfl)) rfl ?_; exact ⟨.inl ⟨hfin'.out, [k, yy, 0, z], rfl, rfl⟩, but_new hbt4'.out (Nat.le_refl _) _⟩
      · have hfin := hok (by omega)
        have HK := rtake_ok rb a n c D (i + m) z w3 hb3 (by omega) (by omega); have hnum := numA_of D (i + m) z (by rw [hb3.sl.ilen]; omega); rw [List.drop_drop, ← hnum] at hfin; obtain ⟨v, hv⟩ : ∃ v, numA D (i + m) z = v := ⟨_, rfl⟩; rw [hv] at hfin HK; clear hbad hok hz hi3 hlD hyes hm0 hm1 hnum hv; have hfin' := Lib.hid hfin; have hb3' := Lib.hid hb3; have HK' := Lib.hid HK; clear hfin hb3 HK
        go_wp2_with fail
        refine HK'.out.mono ?_; rintro e w4 ⟨rfl, hb4, hq4⟩; have hbt4 := hbt'.out.trans hq4; have bx4 := bx3'.out.but hq4 hgx; clear k6 hq4; have hbt4' := Lib.hid hbt4; have bx4' := Lib.hid bx4; have hb4' := Lib.hid hb4; clear hbt4 bx4 hb4
        go_wp2_with (refine wpList_store_row rfl 133 (.tmp 6) (.tmp 52) rfl w.heap.size #[.int .i64 (k : Int), .int .i64 yy, .int .i64 v, .int .i64 (z : Int)] rfl rfl 133 _ bx4'.out (by kernel_rfl) rfl (by kernel_rfl) ?_)
        go_wp2
        refine bodyPost_ret (results_blk_tmp rfl _ _ w.heap.size 133 #[.int .i64 (k : Int), .int .i64 yy, .int .i64 v, .int .i64 (z : Int)] _ rfl (Blk.rowH bx4'.out _) Try.underlying133 rfl (by kernel_rfl)) rfl ?_; exact ⟨.inr ⟨((k : Int), yy, v, (z : Int)), m + z, hfin'.out, rfl, by rw [← Nat.add_assoc]; exact rb_row hb4'.out hgx hax'.out _⟩, but_new hbt4'.out (Nat.le_refl _) _⟩
end Go.Proofs.Ytpjopeojeglogaa

namespace Go.Proofs.Ytpjopeojeglogaa
open Go.RowKit Tt
set_option linter.unusedVariables false
set_option linter.unusedSimpArgs false

theorem codC_snoc (l : List Cod) (x : Cod) : codC (l ++ [x]) = codC l ++ ints .i64 (cdL x) := by unfold codC; rw [List.map_append, List.flatten_append]; simp
theorem blk_neT {w : World} {g g' : Nat} {T T' : TypeId} {cs cs' : Array Value} (h : Blk w g T cs) (h' : Blk w g' T' cs') (hT : T ≠ T') : g ≠ g' := by
  rintro rfl; have h1 : w.heap[g]? = some (.cells cs T) := h; have h2 : w.heap[g]? = some (.cells cs' T') := h'; rw [h1] at h2; injection h2 with h2; injection h2 with _ h2; exact hT h2
theorem symbR_wf {p : PtM} {ac : Nat} {B : List Int} {x : Cod} {k : Nat} (h : symbR p ac B = some (x, k)) (hm : hMay p.2.2.1.1.1 p.2.2.1.1.2 = true) (hm2 : hMay p.2.2.2.1.1 p.2.2.2.1.2 = true) (hac : ac ≤ 1) (hB : BitL B) : ∀ y ∈ cdL x, (Lit.int .i64 y).wf = true := by
  unfold symbR at h; obtain ⟨y, hy, h2⟩ := Option.bind_eq_some_iff.1 h
  have hys : 0 ≤ y.1 ∧ y.1 ≤ 255 := by
    split at hy
    · exact nextS_sym hm hy
    · exact nextS_sym hm2 hy
  split at h2
  · cases h2
  · rename_i hn
    injection h2 with h2; injection h2 with h2 _; have hb := numL_bound _ ((hB.drop y.2).take (y.1 % 16).toNat); have hlen : ((B.drop y.2).take (y.1 % 16).toNat).length ≤ 11 := by rw [List.length_take]; omega
    have h11 : (2 : Int) ^ ((B.drop y.2).take (y.1 % 16).toNat).length ≤ 2 ^ 11 := by exact_mod_cast Nat.pow_le_pow_right (by decide : 0 < 2) hlen
    intro z hz; rw [← h2] at hz; have : z = (ac : Int) ∨ z = y.1 ∨ z = numL ((B.drop y.2).take (y.1 % 16).toNat) ∨ z = y.1 % 16 := by simpa [cdL] using hz
    rcases this with rfl | rfl | rfl | rfl
    · exact wf_of (by omega) (by omega)
    · exact wf_of (by omega) (by omega)
    · exact wf_of (by omega) (by omega)
    · exact wf_of (by omega) (by omega)
/-- what is read of a block is one -/
theorem blkL_ok (l : List Cod) : ∀ (k : Nat) (b : List Int) (u : Nat) (q : List Int × Nat), b.length = 64 → (∀ y ∈ b, -100000 ≤ y ∧ y ≤ 100000) → blkL l k b u = .ok q → q.1.length = 64 ∧ ∀ y ∈ q.1, -100000 ≤ y ∧ y ≤ 100000 := by
  induction l with
  | nil =>
    intro k b u q h1 h2 h; unfold blkL at h
    split at h
    · injection h with h; rw [← h]; exact ⟨h1, h2⟩
    · cases h
  | cons x l ih =>
    intro k b u q h1 h2 h; unfold blkL at h
    split at h
    · injection h with h; rw [← h]; exact ⟨h1, h2⟩
    · split at h
      · cases h
      · rename_i v hv
        split at h
        · injection h with h; rw [← h]; exact ⟨h1, h2⟩
        · split at h
          · cases h
          · refine ih _ _ _ q (by rw [List.length_set]; exact h1) (fun y hy => ?_) h
            rcases List.mem_or_eq_of_mem_set hy with hy | rfl
            · exact h2 y hy
            · obtain ⟨ho, hvv⟩ := symV_some hv
              have h3 := valueS_range hvv; have h4 : (2 : Int) ^ x.2.2.2.toNat ≤ 2 ^ 15 := by exact_mod_cast Nat.pow_le_pow_right (by decide : 0 < 2) (show x.2.2.2.toNat ≤ 15 by omega)
              omega
theorem blockS_ok {l : List Cod} {last : Int} {q : List Int × Nat} (h : blockS l last = .ok q) : q.1.length = 64 ∧ ∀ y ∈ q.1, (Lit.int .i64 y).wf = true := by
  unfold blockS at h
  split at h
  · cases h
  · rename_i hn
    have hsl := size_ok hn
    cases l with
    | nil => cases h
    | cons x l =>
      simp only at h
      cases hv : symV x 0 11 with
      | none => rw [hv] at h; cases h
      | some v =>
        rw [hv] at h; simp only at h
        split at h
        · obtain ⟨ho, hvv⟩ := symV_some hv
          have h3 := valueS_range hvv; have h4 : (2 : Int) ^ x.2.2.2.toNat ≤ 2 ^ 15 := by exact_mod_cast Nat.pow_le_pow_right (by decide : 0 < 2) (show x.2.2.2.toNat ≤ 15 by omega)
          have := blkL_ok l 1 _ 1 q (by rw [List.length_set, List.length_replicate]) (fun y hy => ?_) h
          · exact ⟨this.1, fun y hy => wf_of (by have := this.2 y hy; omega) (by have := this.2 y hy; omega)⟩
          · rcases List.mem_or_eq_of_mem_set hy with hy | rfl
            · rw [List.eq_of_mem_replicate hy]; omega
            · omega
        · cases h
end Go.Proofs.Ytpjopeojeglogaa
