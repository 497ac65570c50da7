/- Chapter 22: the law WalkAgain: the walk. -/
import Derived.Test.YtilennmeiaehnaaGreatCa37
import Derived.Test.YtilennmeiaehnaaGreatCa39
import Derived.Test.YtilennmeiaehnaaGreatCa29
import Derived.Test.YtilennmeiaehnaaGreatCa31
import Derived.Test.YtilennmeiaehnaaGreatCa11
namespace Go.Proofs.YtilennmeiaehnaaGreat
open Go.RowKit Tt
set_option linter.unusedVariables false
set_option linter.unusedSimpArgs false
theorem row_set {w : World} {g : Nat} {L : List Int} (h : Row w g 3 .i64 L) (k : Nat) (v : Int) : Row (w.setCell ⟨g, k, none⟩ (.int .i64 v)) g 3 .i64 (L.set k v) := by
  have := Blk.set (T := 3) h k (.int .i64 v); have e : (ints .i64 L).toArray.setIfInBounds k (.int .i64 v) = (ints .i64 (L.set k v)).toArray := by simp [ints, List.map_set]
  rw [e] at this; exact this
theorem row_cell {w : World} {g : Nat} {L : List Int} (h : Row w g 3 .i64 L) {k : Nat} {v : Int} (hv : L[k]? = some v) : w.cell? ⟨g, k, none⟩ = some (.int .i64 v) :=
  Blk.cell (T := 3) h (by simp [ints, hv])
theorem byt_zeL {z : List Int} (S : List Spt) (h : Byt z) (k : Nat) : Byt (zeL S z k) := fun x hx => by
  unfold zeL at hx; obtain ⟨j, _, rfl⟩ := List.mem_map.1 hx
  split
  · decide
  · exact h.get _
set_option maxRecDepth 20000 in
set_option maxHeartbeats 2000000 in
theorem wagain_any (hD : DirOk) (a : Option Addr) (n c : Nat) (z : List Int) (qa : Option Addr) (qn qc : Nat) (zs : List Shz) (w : World) (hs : Sl w a n c 1 (ints .u8 z)) (hby : Byt z) (hz : ShR w qa qn qc zs) :
    Calls Tryz.prog 8 #[.slice a n c, .slice qa qn qc] w fun e w' => e = .returned (.bool true) ∧ Below w.heap.size w w' := by
  have hzl := hs.ilen; have hnm := Nat.le_trans hs.le hs.max; have hM := many_anyW qa qn qc zs w hz; have hs' := Lib.hid hs; have hby' := Lib.hid hby
  have hz' := Lib.hid hz; have hM' := Lib.hid hM; have hzl' := Lib.hid hzl; clear hs hby hz hM hzl
  go_enter Tryz.func8, Tryz.ntmps8
  by_cases hbig : 2000 < n
  · have e1 : decide ((2000 : Int) < (n : Int)) = true := by simp; omega
    have hbwz := Below.refl w.heap.size w; have hbwz' := Lib.hid hbwz; clear hbwz
    go_wp2_with fail
    refine (awake_anyW hD _).mono ?_; rintro e w9 ⟨rfl, hb9⟩; have hbw9 := hbwz'.out.trans (hb9.mono hbwz'.out.size); have hb9' := Lib.hid hb9; have hbw9' := Lib.hid hbw9; clear hb9 hbw9
    go_wp2_with fail
    go_ret
    exact ⟨rfl, hbw9'.out⟩
  have e1 : decide ((2000 : Int) < (n : Int)) = false := by simp; omega
  go_wp2_with fail
  refine hM'.out.mono ?_; rintro e w1 ⟨b3, rfl, rfl⟩
  cases b3 with
  | true =>
    have hbwz := Below.refl w.heap.size w; have hbwz' := Lib.hid hbwz; clear hbwz
    go_wp2_with fail
    refine (awake_anyW hD _).mono ?_; rintro e w9 ⟨rfl, hb9⟩; have hbw9 := hbwz'.out.trans (hb9.mono hbwz'.out.size); have hb9' := Lib.hid hb9; have hbw9' := Lib.hid hbw9; clear hb9 hbw9
    go_wp2_with fail
    go_ret
    exact ⟨rfl, hbw9'.out⟩
  | false =>
  have hOf := wof_any hD a n c z qa qn qc zs w hs'.out hz'.out hby'.out (by omega) (fun x e => readS_ne e); have hCl := fun W (h : Below w.heap.size w W) => wclean_anyW hD a n c z qa qn qc zs W (hs'.out.mono h) (hz'.out.mono h) hby'.out (by omega); obtain ⟨R, hR⟩ : ∃ R, readS z (shps zs) = R := ⟨_, rfl⟩; rw [hR] at hOf; have hOf' := Lib.hid hOf; have hCl' := Lib.hid hCl; clear hOf hCl
  go_wp2_with fail
  refine hOf'.out.mono ?_; rintro e w2 hpost
  cases R with
  | error x =>
    obtain ⟨rfl, hb2⟩ := hpost; have hx0 := readS_ne hR; have hx6 := readS_err hR; have f1 : (x != 0) = true := by simp [hx0]
    have f2 : decide (x ≤ 6) = true := by simp; exact hx6
    have hcz := cleanS_noW hR; have hal := (Below.refl w2.heap.size w2).alloc (Nat.le_refl _) (.cells #[.int .i64 0, .slice none 0 0] 24); have bU := Blk.new w2 24 #[.int .i64 0, .slice none 0 0]; have hb3 := hb2.trans (hal.mono hb2.size); have hC3 := hCl'.out _ hb3; rw [hcz] at hC3; have q1 := bU.cell (i := 1) rfl; clear hx0 hx6 hcz; have hb2' := Lib.hid hb2; have hR' := Lib.hid hR; have hal' := Lib.hid hal; have bU' := Lib.hid bU; have hb3' := Lib.hid hb3; have hC3' := Lib.hid hC3; clear hb2 hR hal bU hb3 hC3
    go_wp2_with fail
    refine hC3'.out.mono ?_; rintro e w4 ⟨rfl, hb4⟩; have hbwz := hb3'.out.trans (hb4.mono hb3'.out.size); clear q1; have hb4' := Lib.hid hb4; clear hb4; have hbwz' := Lib.hid hbwz; clear hbwz
    go_wp2_with fail
    refine (awake_anyW hD _).mono ?_; rintro e w9 ⟨rfl, hb9⟩; have hbw9 := hbwz'.out.trans (hb9.mono hbwz'.out.size); have hb9' := Lib.hid hb9; have hbw9' := Lib.hid hbw9; clear hb9 hbw9
    go_wp2_with fail
    go_ret
    exact ⟨rfl, hbw9'.out⟩
  | ok r =>
    obtain ⟨ds, s⟩ := r; obtain ⟨ua, un, uc, pa, sn, pc, rfl, hb2, hda, hsp⟩ := hpost; have hk := read_ok hby'.out (by rw [hzl'.out]; omega) hR; obtain ⟨o, ho⟩ : ∃ x, orderS z = x := ⟨_, rfl⟩; have hchk := hk.chk; rw [ho] at hchk; have hDu := DirsAt.rd hda; have hun : ds.length = un := hDu.len; have hdl := hk.len; have hspl := (Sl.of_own hsp).1; have hsn : s.spots.length = sn := hspl.flen spC_len (by decide); have h2s := hk.two; have hsb := hk.bnd; rw [hzl'.out] at hsb; rw [hsn] at h2s hsb; have hal := (Below.refl w2.heap.size w2).alloc (Nat.le_refl _) (.cells #[.int .i64 o, .slice ua un uc] 24); have bT := Blk.new w2 24 #[.int .i64 o, .slice ua un uc]; obtain ⟨gT, hgT⟩ : ∃ g, w2.heap.size = g := ⟨_, rfl⟩; obtain ⟨W3, hW3⟩ : ∃ W, w2.alloc (.cells #[.int .i64 o, .slice ua un uc] 24) = W := ⟨_, rfl⟩; rw [hW3] at hal bT; rw [hgT] at bT; have hb3 := hb2.trans (hal.mono hb2.size); have hDu3 := hDu.mono hal; have hsp3 := hspl.mono hal; have hok := fun e => okt_of (f := 16) (o := o) (ds := ds) (L := shps zs) e hk.byt; have hWr := twrite_any 16 o ua un uc ds qa qn qc zs W3 hDu3 (hz'.out.mono hb3) hk.sml hk.byt hk.flt (by omega) hok; have hPc := fun W (h : Below W3.heap.size W3 W) => pcheck_any 16 o ua un uc ds qa qn qc zs W (hDu3.mono h) (hz'.out.mono (hb3.trans (h.mono hb3.size))) hk.sml hk.byt hk.flt (by omega); obtain ⟨WB, hWB⟩ : ∃ x, wrtS 16 o ds (shps zs) = x := ⟨_, rfl⟩; have hWt : WB = treeW 16 o ds (shps zs) := by rw [← hWB]; unfold wrtS; rw [if_pos hchk]
    rw [hchk, hWB] at hWr; simp only [hchk] at hPc; have hN6 : (flatT 16 ds).length < 1000000 := by have := hk.flt; omega
    obtain ⟨hR0, hO0⟩ := back_read hchk hk.byt hN6 0; rw [List.replicate_zero, List.append_nil, ← hWt] at hR0 hO0; have hBW := byt_treeW hchk hk.byt; have hWl := treeW_len hchk hk.byt; have hlng := hk.lng; rw [← hWt] at hBW hWl; have q0 : W3.cell? ⟨gT, 0, none⟩ = some (.int .i64 o) := bT.cell rfl; have q1 : W3.cell? ⟨gT, 1, none⟩ = some (.slice ua un uc) := bT.cell rfl; rw [← hgT, ← hW3] at q0 q1; have f0 : ((0 : Int) != 0) = false := rfl; have hb2' := Lib.hid hb2; have hda' := Lib.hid hda; have hsp' := Lib.hid hsp; have hk' := Lib.hid hk; have ho' := Lib.hid ho; have hchk' := Lib.hid hchk; have hDu' := Lib.hid hDu; have hun' := Lib.hid hun; have hspl' := Lib.hid hspl; have hsn' := Lib.hid hsn; have hal' := Lib.hid hal; have bT' := Lib.hid bT; have hgT' := Lib.hid hgT; have hW3' := Lib.hid hW3; have hb3' := Lib.hid hb3; have hDu3' := Lib.hid hDu3; have hsp3' := Lib.hid hsp3; have hok' := Lib.hid hok; have hWr' := Lib.hid hWr; have hPc' := Lib.hid hPc; have hWB' := Lib.hid hWB; have hWt' := Lib.hid hWt; have hR0' := Lib.hid hR0; have hO0' := Lib.hid hO0; have hBW' := Lib.hid hBW; have hWl' := Lib.hid hWl; clear hb2 hda hsp hk ho hchk hDu hun hspl hsn hal bT hgT hW3 hb3 hDu3 hsp3 hok hWr hPc hWB hWt hR0 hO0 hBW hWl; rw [ho'.out]
    go_wp2_with fail
    try rw [hW3'.out]
    try rw [hgT'.out]
    refine hWr'.out.mono ?_; rintro e w4 ⟨a4, m4, c4, rfl, ho4, hb4⟩; have hs4 := (Sl.of_own ho4).1; have hm4 : WB.length = m4 := hs4.ilen; have bT4 := bT'.out.late hb4; have hb04 := hb3'.out.trans (hb4.mono hb3'.out.size); have hOf4 := wof_any hD a4 m4 c4 WB qa qn qc zs w4 hs4 (hz'.out.mono hb04) hBW'.out (by have := hWl'.out; omega) (fun x e => readS_ne e); rw [hR0'.out, hO0'.out] at hOf4; clear q0 q1; have ho4' := Lib.hid ho4; have hb4' := Lib.hid hb4; have hs4' := Lib.hid hs4; have hm4' := Lib.hid hm4; have bT4' := Lib.hid bT4; have hb04' := Lib.hid hb04; have hOf4' := Lib.hid hOf4; clear ho4 hb4 hs4 hm4 bT4 hb04 hOf4
    go_wp2_with fail
    refine hOf4'.out.mono ?_; rintro e w5 ⟨va, vn, vc, ya, yn, yc, rfl, hb5, hdv, hspv⟩; have hDv := DirsAt.rd hdv; have hal5 := (Below.refl w5.heap.size w5).alloc (Nat.le_refl _) (.cells #[.int .i64 o, .slice va vn vc] 24); have bV := Blk.new w5 24 #[.int .i64 o, .slice va vn vc]; obtain ⟨gV, hgV⟩ : ∃ g, w5.heap.size = g := ⟨_, rfl⟩; obtain ⟨W6, hW6⟩ : ∃ W, w5.alloc (.cells #[.int .i64 o, .slice va vn vc] 24) = W := ⟨_, rfl⟩; rw [hW6] at hal5 bV; rw [hgV] at bV; have hb46 := hb5.trans (hal5.mono hb5.size); have hb36 := hb4'.out.trans (hb46.mono hb4'.out.size); have hb06 := hb3'.out.trans (hb36.mono hb3'.out.size); have bT6 := bT4'.out.late hb46; have hDv6 := hDv.mono hal5; have hPc6 := hPc'.out W6 hb36; have q0 : W6.cell? ⟨gT, 0, none⟩ = some (.int .i64 o) := bT6.cell rfl; have q1 : W6.cell? ⟨gT, 1, none⟩ = some (.slice ua un uc) := bT6.cell rfl; rw [← hW6] at q0 q1; have hb5' := Lib.hid hb5; have hdv' := Lib.hid hdv; have hspv' := Lib.hid hspv; have hDv' := Lib.hid hDv; have hal5' := Lib.hid hal5; have bV' := Lib.hid bV; have hgV' := Lib.hid hgV; have hW6' := Lib.hid hW6; have hb46' := Lib.hid hb46; have hb36' := Lib.hid hb36; have hb06' := Lib.hid hb06; have bT6' := Lib.hid bT6; have hDv6' := Lib.hid hDv6; have hPc6' := Lib.hid hPc6; clear hb5 hdv hspv hDv hal5 bV hgV hW6 hb46 hb36 hb06 bT6 hDv6 hPc6
    go_wp2_with fail
    try rw [hW6'.out]
    try rw [hgV'.out]
    refine hPc6'.out.mono ?_; rintro e w7 ⟨rfl, hb7⟩; have bT7 := bT6'.out.late hb7; have bV7 := bV'.out.late hb7; have hb37 := hb36'.out.trans (hb7.mono hb36'.out.size); have hb07 := hb3'.out.trans (hb37.mono hb3'.out.size); have hDv7 := hDv6'.out.mono hb7; have hDu7 := hDu3'.out.mono hb37; clear q0 q1; have q0 : w7.cell? ⟨gT, 0, none⟩ = some (.int .i64 o) := bT7.cell rfl; have q1 : w7.cell? ⟨gT, 1, none⟩ = some (.slice ua un uc) := bT7.cell rfl; have v0 : w7.cell? ⟨gV, 0, none⟩ = some (.int .i64 o) := bV7.cell rfl; have v1 : w7.cell? ⟨gV, 1, none⟩ = some (.slice va vn vc) := bV7.cell rfl; have hS1 := ptree_same 16 o o va vn vc ua un uc ds ds w7 hDv7 hDu7 hk'.out.byt hk'.out.byt true (by simp); have f3 : decide ((sn : Int) < 2) = false := by simp; omega
    have hb7' := Lib.hid hb7; have bT7' := Lib.hid bT7; have bV7' := Lib.hid bV7; have hb37' := Lib.hid hb37; have hb07' := Lib.hid hb07; have hDv7' := Lib.hid hDv7; have hDu7' := Lib.hid hDu7; have hS1' := Lib.hid hS1; clear hb7 bT7 bV7 hb37 hb07 hDv7 hDu7 hS1
    go_wp2_with fail
    refine hS1'.out.mono ?_; rintro e w8 ⟨rfl, hb8⟩; have bT8 := bT7'.out.late hb8; have hb38 := hb37'.out.trans (hb8.mono hb37'.out.size); have hb08 := hb3'.out.trans (hb38.mono hb3'.out.size); clear q0 q1 v0 v1; obtain ⟨i0, hi, hz0, hz1, hz2⟩ := info_parts infoI64
    have hrow : (madeCells (Value.int .i64 0).cells (n * 1)).toList = ints .i64 (List.replicate n 0) := by
      rw [Nat.mul_one]
      show (madeCells #[Value.int .i64 0] n).toList = _
      rw [toList_madeCells_one]; simp [ints]
    have hb8' := Lib.hid hb8; have bT8' := Lib.hid bT8; have hb38' := Lib.hid hb38; have hb08' := Lib.hid hb08; have hrow' := Lib.hid hrow; clear hb8 bT8 hb38 hb08 hrow
    go_upto_region 11 with (at_make; refine wpList_make_full w8 rfl _ _ 73 rfl w8.heap.size 3 i0 _ 1 Tryz.underlying73 hi hz0 hz1 .i64 .i64 _ _ n rfl rfl rfl rfl (by rw [hz2]; omega) (by unfold maxLen; omega) (Nat.le_refl _) ?_; intro w9 hown hg9; rw [hrow'.out] at hown; have R9 := Row.of_own hown; have hb9 := (Below.refl w8.heap.size w8).grown hg9 (Nat.le_refl _) (fun k e => by cases e); clear hown hg9)
    obtain ⟨gK, hgK⟩ : ∃ g, w8.heap.size = g := ⟨_, rfl⟩; rw [hgK] at R9 ⊢
    have htk0 : tkL (s.spots.take 0) n = List.replicate n 0 := by
      rw [List.take_zero]; refine list_ext0 (by rw [tkL_len]; simp) fun k hk => ?_; rw [tkL_len] at hk; rw [List.getD_eq_getElem?_getD, tkL_at hk, List.getD_eq_getElem?_getD, List.getElem?_replicate, if_pos hk]
      rfl
    have R9b : Row w9 gK 3 .i64 (tkL (s.spots.take 0) n) := by rw [htk0]; exact R9
    have hb9' := Lib.hid hb9; have R9' := Lib.hid R9; have R9b' := Lib.hid R9b; have hgK' := Lib.hid hgK; clear hb9 R9 R9b hgK
    go_wp2_with fail
    go_loopw [14] (fun iv wr => ∃ i : Nat, i ≤ sn ∧ iv = .int .i64 i ∧ Hid (Row wr gK 3 .i64 (tkL (s.spots.take i) n)) ∧ Hid (Below w8.heap.size w8 wr)) (fun iv _ => sn - (intOf iv).toNat)
    case atStart => exact ⟨0, by omega, rfl, R9b', hb9'⟩
    case round =>
      obtain ⟨i, hi2, rfl, hrw, hbr⟩ := hrel
      by_cases hlt : i < sn
      · have hil : (i : Int) < (sn : Int) := by omega
        have hw1 : IntKind.i64.wrap ((i : Int) + 1) = i + 1 := by rw [IntKind.wrap_i64]; omega
        have his : i < s.spots.length := by rw [hsn'.out]; exact hlt
        have hb3r := hb38'.out.trans (hbr.out.mono hb38'.out.size); obtain ⟨xb, xo, rfl, hxlt, fe⟩ := (hsp3'.out.mono hb3r).elem spC_len (by decide) (0, 0, 0, 0, 0) hlt; rw [getD_el his] at fe; have f0 := fe 0 _ rfl; have f1 := fe 1 _ rfl; have f2 := fe 2 _ rfl; have f3 := fe 3 _ rfl; have f4 := fe 4 _ rfl; rw [Nat.add_zero] at f0; clear fe; have hone := hk'.out.one _ (List.getElem_mem his)
        have hapt : ∀ y ∈ s.spots.take i, Apart y s.spots[i] := fun y hy => by
          obtain ⟨j, hj, rfl⟩ := List.getElem_of_mem hy; rw [List.getElem_take]; have hj2 : j < i := by rw [List.length_take] at hj; omega
          exact List.pairwise_iff_getElem.1 hk'.out.apart j i (by omega) his hj2
        have hyo : ∀ y ∈ s.spots.take i, 1 ≤ y.2.2.2.2 := fun y hy => (hk'.out.one y (List.mem_of_mem_take hy)).1; have htn : s.spots.take (i + 1) = s.spots.take i ++ [s.spots[i]] := by rw [List.take_add_one, List.getElem?_eq_getElem his, Option.toList_some]
        obtain ⟨⟨x0, x1, x2, x3, x4⟩, hx⟩ : ∃ x, s.spots[i] = x := ⟨_, rfl⟩; rw [hx] at f0 f1 f2 f3 f4 hone hapt htn; simp only at f0 f1 f2 f3 f4 hone; rw [hzl'.out] at hone; obtain ⟨A, rfl⟩ : ∃ A : Nat, x3 = A := ⟨x3.toNat, by omega⟩; obtain ⟨B, rfl⟩ : ∃ B : Nat, x4 = B := ⟨x4.toNat, by omega⟩; have g1 : decide ((A : Int) < 0) = false := by simp
        have htm : Int.tmod (A : Int) 2 = 0 := by rw [Int.tmod_eq_emod_of_nonneg (by omega)]; omega
        have g3 : decide ((B : Int) < 1) = false := by simp; omega
        have hw2 : IntKind.i64.wrap ((n : Int) - (B : Int)) = n - B := by rw [IntKind.wrap_i64]; omega
        have g4 : decide ((n : Int) - (B : Int) < (A : Int)) = false := by simp; omega
        have hw3 : IntKind.i64.wrap ((A : Int) + (B : Int)) = ((A + B : Nat) : Int) := by rw [IntKind.wrap_i64]; omega
        have halx := (Below.refl wr.heap.size wr).alloc (Nat.le_refl _) (.cells #[.int .i64 x0, .int .i64 x1, .int .i64 x2, .int .i64 (A : Int), .int .i64 (B : Int)] 57); have bX := Blk.new wr 57 #[.int .i64 x0, .int .i64 x1, .int .i64 x2, .int .i64 (A : Int), .int .i64 (B : Int)]; obtain ⟨gX, hgX⟩ : ∃ g, wr.heap.size = g := ⟨_, rfl⟩; obtain ⟨W10, hW10⟩ : ∃ W, wr.alloc (.cells #[.int .i64 x0, .int .i64 x1, .int .i64 x2, .int .i64 (A : Int), .int .i64 (B : Int)] 57) = W := ⟨_, rfl⟩; rw [hW10] at halx bX; have hgKl : gK < wr.heap.size := Blk.lt (T := 3) hrw.out; rw [hgX] at bX hgKl
        have hrw10 : Row W10 gK 3 .i64 (tkI (s.spots.take i) (x0, x1, x2, (A : Int), (B : Int)) n A) := by
          rw [tkI_start rfl]; exact Blk.late (T := 3) hrw.out halx
        have hb10 := hbr.out.trans (halx.mono hbr.out.size); have s3 : W10.cell? ⟨gX, 3, none⟩ = some (.int .i64 (A : Int)) := bX.cell rfl; have s4 : W10.cell? ⟨gX, 4, none⟩ = some (.int .i64 (B : Int)) := bX.cell rfl; rw [← hgX, ← hW10] at s3 s4; have hb3r' := Lib.hid hb3r; have hapt' := Lib.hid hapt; have hyo' := Lib.hid hyo; have htn' := Lib.hid htn; have hx' := Lib.hid hx; have halx' := Lib.hid halx; have bX' := Lib.hid bX; have hgX' := Lib.hid hgX; have hW10' := Lib.hid hW10; have hrw10' := Lib.hid hrw10; have hb10' := Lib.hid hb10; clear hb3r hapt hyo htn hx halx bX hgX hW10 hrw10 hb10
        go_upto_region 17 with fail
        try rw [hW10'.out]
        try rw [hgX'.out]
        clear f0 f1 f2 f3 f4 s3 s4; have s3 : W10.cell? ⟨gX, 3, none⟩ = some (.int .i64 (A : Int)) := bX'.out.cell rfl
        go_wp2_with fail
        clear s3
        go_loopw [16] (fun kv wq => ∃ k : Nat, A ≤ k ∧ k ≤ A + B ∧ kv = .int .i64 k ∧ Hid (Row wq gK 3 .i64 (tkI (s.spots.take i) (x0, x1, x2, (A : Int), (B : Int)) n k)) ∧ Hid (Blk wq gX 57 #[.int .i64 x0, .int .i64 x1, .int .i64 x2, .int .i64 (A : Int), .int .i64 (B : Int)]) ∧ Hid (Below w8.heap.size w8 wq)) (fun kv _ => A + B - (intOf kv).toNat)
        case atStart => exact ⟨A, by omega, by omega, rfl, hrw10', bX', hb10'⟩
        case round =>
          obtain ⟨k, hk1, hk2, rfl, hrq, bXq, hbq⟩ := hrel; have s3 : wr.cell? ⟨gX, 3, none⟩ = some (.int .i64 (A : Int)) := bXq.out.cell rfl; have s4 : wr.cell? ⟨gX, 4, none⟩ = some (.int .i64 (B : Int)) := bXq.out.cell rfl
          by_cases hkl : k < A + B
          · have hkl2 : (k : Int) < ((A + B : Nat) : Int) := by omega
            have hkn : k < n := by omega
            have hkn2 : (k : Int) < (n : Int) := by omega
            have hw4 : IntKind.i64.wrap ((k : Int) + 1) = k + 1 := by rw [IntKind.wrap_i64]; omega
            have hat := tkI_at (S := s.spots.take i) (x := (x0, x1, x2, (A : Int), (B : Int))) (n := n) (k := k) hkn hapt'.out hyo'.out (by show (A : Int) ≤ k; omega) (by show (k : Int) < A + B; omega); have t0 : wr.cell? ⟨gK, k, none⟩ = some (.int .i64 0) := row_cell hrq.out hat; have y0 : wr.frozen? ⟨gK, k, none⟩ = false := Blk.frozen (T := 3) hrq.out k; have hrn := row_set hrq.out k 1; rw [tkI_step hkn (by show (A : Int) ≤ k; omega)] at hrn; have hbt := (But.refl gK wr).set k (.int .i64 1); have bXn := Blk.but_ hbt bXq.out (by omega); have hbn := hbq.out.setCell (p := ⟨gK, k, none⟩) (by rw [hgK'.out]; exact Nat.le_refl _) (.int .i64 1); clear hat; have hrn' := Lib.hid hrn; have hbt' := Lib.hid hbt; have bXn' := Lib.hid bXn; have hbn' := Lib.hid hbn; clear hrn hbt bXn hbn
            go_wp2_with fail
            go_roundw
            case rel => exact ⟨k + 1, by omega, by omega, by go_num, hrn', bXn', hbn'⟩
            case measure => simp [intOf]; omega
          · obtain rfl : k = A + B := by omega
            have hrn := hrq.out; rw [tkI_end (by show (A : Int) + (B : Int) = ((A + B : Nat) : Int); omega), ← htn'.out] at hrn; have hrn' := Lib.hid hrn; clear hrn
            go_wp2_with fail
            go_roundw
            case rel => exact ⟨i + 1, by omega, by go_num, hrn', hbq⟩
            case measure => simp [intOf]; omega
      · obtain rfl : i = sn := by omega
        have htA : s.spots.take i = s.spots := List.take_of_length_le (by rw [hsn'.out]; exact Nat.le_refl _); rw [htA] at hrw
        have hn1 : 1 ≤ n := by
          obtain ⟨x, hx⟩ : ∃ x, x ∈ s.spots := List.exists_mem_of_length_pos (by rw [hsn'.out]; omega); have := hk'.out.one x hx; rw [hzl'.out] at this
          omega
        have hb3r := hb38'.out.trans (hbr.out.mono hb38'.out.size); have hb0r := hb3'.out.trans (hb3r.mono hb3'.out.size); have hOw := own01_any a n c z wr (hs'.out.mono hb0r) (by omega); clear htA; have hb3r' := Lib.hid hb3r; have hb0r' := Lib.hid hb0r; have hOw' := Lib.hid hOw; clear hb3r hb0r hOw
        go_wp2_with fail
        refine hOw'.out.mono ?_; rintro e w11 ⟨a11, c11, rfl, ho11, hb11⟩; obtain ⟨g11, rfl, hgB, hgl, _, _⟩ := own_at ho11 (i := 0) (by omega); have hrw11 : Row w11 gK 3 .i64 (tkL s.spots n) := Blk.late (T := 3) hrw.out hb11; have hgKr : gK < wr.heap.size := Blk.lt (T := 3) hrw.out; have hb011 := hb0r'.out.trans (hb11.mono hb0r'.out.size); have ho11z : w11.ownsRow wr.heap.size 5 1 (.slice (some ⟨g11, 0, none⟩) n c11) n (ints .u8 (zeL s.spots z 0)) := by rw [zeL_zero]; exact ho11
        obtain ⟨gB, hgBe⟩ : ∃ x, wr.heap.size = x := ⟨_, rfl⟩; rw [hgBe] at hgB hgKr ho11z; have hb3B := (hb3r'.out.trans (hb11.mono hb3r'.out.size)); have hb11' := Lib.hid hb11; have ho11' := Lib.hid ho11; have hrw11' := Lib.hid hrw11; have hb011' := Lib.hid hb011; have ho11z' := Lib.hid ho11z; have hgBe' := Lib.hid hgBe; have hb3B' := Lib.hid hb3B; clear hb11 ho11 hrw11 hb011 ho11z hgBe hb3B
        go_wp2_with fail
        go_loopw [18, 19] (fun gv kv wr => ∃ k : Nat, k ≤ n ∧ gv = .int .i64 (gapN s.spots z k : Nat) ∧ kv = .int .i64 k ∧ Hid (wr.ownsRow gB 5 1 (.slice (some ⟨g11, 0, none⟩) n c11) n (ints .u8 (zeL s.spots z k))) ∧ Hid (Row wr gK 3 .i64 (tkL s.spots n)) ∧ Hid (Below W3.heap.size W3 wr)) (fun _ kv _ => n - (intOf kv).toNat)
        case atStart => exact ⟨0, by omega, rfl, rfl, ho11z', hrw11', hb3B'⟩
        case round =>
          obtain ⟨k, hk1, rfl, rfl, hoz, hrk, hbk⟩ := hrel; have hb0k := hb3'.out.trans (hbk.out.mono hb3'.out.size)
          by_cases hlt : k < n
          · have hil : (k : Int) < (n : Int) := by omega
            have hk0 : (0 : Int) ≤ (k : Int) := by omega
            have hw1 : IntKind.i64.wrap ((k : Int) + 1) = k + 1 := by rw [IntKind.wrap_i64]; omega
            have hat := tkL_at (S := s.spots) hlt; have hgs := gapN_step s.spots z k; have hgl2 := gapN_le s.spots z k; have hkz : k < z.length := by rw [hzl'.out]; exact hlt
            obtain ⟨qp, hqi, _, hqc⟩ := byte_atW (hs'.out.mono hb0k) k hlt; obtain ⟨xv, hxv⟩ : ∃ v, z.getD k 0 = v := ⟨_, rfl⟩; rw [hxv] at hqc hgs
            cases hbt : tkB s.spots k with
            | true =>
              rw [hbt] at hat hgs; have t0 : wr.cell? ⟨gK, k, none⟩ = some (.int .i64 1) := row_cell hrk.out hat; have hz9 := zeL_same (S := s.spots) (z := z) (k := k) (.inl hbt); have hg9 : gapN s.spots z (k + 1) = gapN s.spots z k := by rw [hgs, if_neg (by simp)]; rfl
              have hoz2 := hoz.out; rw [← hz9] at hoz2; clear hqc hqi hat hgs; have hoz2' := Lib.hid hoz2; have hz9' := Lib.hid hz9; have hg9' := Lib.hid hg9; have hbt' := Lib.hid hbt; have hxv' := Lib.hid hxv; have hb0k' := Lib.hid hb0k; clear hoz2 hz9 hg9 hbt hxv hb0k
              go_wp2_with fail
              go_roundw
              case rel => exact ⟨k + 1, by omega, by rw [hg9'.out], by go_num, hoz2', hrk, hbk⟩
              case measure => simp [intOf]; omega
            | false =>
              rw [hbt] at hat hgs; have t0 : wr.cell? ⟨gK, k, none⟩ = some (.int .i64 0) := row_cell hrk.out hat
              by_cases hx0 : xv = 0
              · have d0 : (xv != 0) = false := by simp [hx0]
                have hz9 := zeL_same (S := s.spots) (z := z) (k := k) (.inr (hxv.trans hx0)); have hg9 : gapN s.spots z (k + 1) = gapN s.spots z k := by rw [hgs, if_neg (by simp [hx0])]; rfl
                have hoz2 := hoz.out; rw [← hz9] at hoz2; clear hat hgs; have hoz2' := Lib.hid hoz2; have hz9' := Lib.hid hz9; have hg9' := Lib.hid hg9; have hbt' := Lib.hid hbt; have hxv' := Lib.hid hxv; have hb0k' := Lib.hid hb0k; have hx0' := Lib.hid hx0; clear hoz2 hz9 hg9 hbt hxv hb0k hx0
                go_wp2_with fail
                go_roundw
                case rel => exact ⟨k + 1, by omega, by rw [hg9'.out], by go_num, hoz2', hrk, hbk⟩
                case measure => simp [intOf]; omega
              · have d0 : (xv != 0) = true := by simp [hx0]
                have hz9 := zeL_set (S := s.spots) (z := z) hkz hbt; have hg9 : gapN s.spots z (k + 1) = gapN s.spots z k + 1 := by rw [hgs, if_pos ⟨rfl, hx0⟩]
                have hw2 : IntKind.i64.wrap (((gapN s.spots z k : Nat) : Int) + 1) = ((gapN s.spots z (k + 1) : Nat) : Int) := by rw [IntKind.wrap_i64, hg9]; omega
                obtain ⟨yv, hyv⟩ : ∃ v, (zeL s.spots z k)[k]? = some v := ⟨_, List.getElem?_eq_getElem (by rw [zeL_len]; exact hkz)⟩; obtain ⟨_, he, _, _, hfz, hcl⟩ := own_at hoz.out (i := k) hlt; injection he with he; injection he with he; subst he; have p0 : wr.cell? ⟨g11, k, none⟩ = some (.int .u8 yv) := hcl k _ (by unfold ints; rw [List.getElem?_map, hyv]; rfl); have y0 := hfz k; have hoz2 := own_put hoz.out k (.int .u8 0); have e9 : (ints .u8 (zeL s.spots z k)).set k (.int .u8 0) = ints .u8 (zeL s.spots z (k + 1)) := by rw [← hz9]; simp [ints, List.map_set]
                rw [e9] at hoz2; have hbt2 := (But.refl g11 wr).set k (.int .u8 0); have hrk2 : Row (wr.setCell ⟨g11, k, none⟩ (.int .u8 0)) gK 3 .i64 (tkL s.spots n) := Blk.but_ (T := 3) hbt2 hrk.out (by omega); have hbk2 := hbk.out.setCell (p := ⟨g11, k, none⟩) (by show W3.heap.size ≤ g11; have := hb3r'.out.size; rw [hgBe'.out] at this; omega) (.int .u8 0); clear hat hgs hfz hcl e9; have hoz2' := Lib.hid hoz2; have hz9' := Lib.hid hz9; have hg9' := Lib.hid hg9; have hbt' := Lib.hid hbt; have hxv' := Lib.hid hxv; have hb0k' := Lib.hid hb0k; have hx0' := Lib.hid hx0; have hrk2' := Lib.hid hrk2; have hbk2' := Lib.hid hbk2; have hbt2' := Lib.hid hbt2; have hyv' := Lib.hid hyv; clear hoz2 hz9 hg9 hbt hxv hb0k hx0 hrk2 hbk2 hbt2 hyv
                go_wp2_with fail
                go_roundw
                case rel => exact ⟨k + 1, by omega, rfl, by go_num, hoz2', hrk2', hbk2'⟩
                case measure => simp [intOf]; omega
          · obtain rfl : k = n := by omega
            obtain ⟨hA1, hA2⟩ := again_read hR; have hA3 := again_none (s := s) (z := z); have hA4 := again_some hR; rw [hzl'.out] at hA1 hA2 hA3 hA4; rw [ho'.out] at hA2; have hByz := byt_zeL s.spots hby'.out k; have hOf9 := wof_any hD (some ⟨g11, 0, none⟩) k c11 (zeL s.spots z k) qa qn qc zs wr (Sl.of_own hoz.out).1 (hz'.out.mono hb0k) hByz (by omega) (fun x e => readS_ne e); rw [hA1, hA2] at hOf9; obtain ⟨G, hG⟩ : ∃ G, gapN s.spots z k = G := ⟨_, rfl⟩; rw [hG] at hA3 hA4; have hb0k' := Lib.hid hb0k; have hA1' := Lib.hid hA1; have hA2' := Lib.hid hA2; have hA3' := Lib.hid hA3; have hA4' := Lib.hid hA4; have hByz' := Lib.hid hByz; have hOf9' := Lib.hid hOf9; have hG' := Lib.hid hG; clear hb0k hA1 hA2 hA3 hA4 hByz hOf9 hG; rw [hG'.out]
            go_wp2_with fail
            refine hOf9'.out.mono ?_; rintro e w12 ⟨ta, tn, tc, oa, on_, oc, rfl, hb12, hdt, hspt⟩; have hDt := DirsAt.rd hdt; have hso := (Sl.of_own hspt).1; have hal12 := (Below.refl w12.heap.size w12).alloc (Nat.le_refl _) (.cells #[.int .i64 o, .slice ta tn tc] 24); have bZ := Blk.new w12 24 #[.int .i64 o, .slice ta tn tc]; obtain ⟨gZ, hgZ⟩ : ∃ g, w12.heap.size = g := ⟨_, rfl⟩; obtain ⟨W13, hW13⟩ : ∃ W, w12.alloc (.cells #[.int .i64 o, .slice ta tn tc] 24) = W := ⟨_, rfl⟩; rw [hW13] at hal12 bZ; rw [hgZ] at bZ; have hbk13 := hb12.trans (hal12.mono hb12.size); have hb313 := hbk.out.trans (hbk13.mono hbk.out.size); have hb013 := hb3'.out.trans (hb313.mono hb3'.out.size); have bT13 := bT'.out.late hb313; have hDu13 := hDu3'.out.mono hb313; have hDt13 := hDt.mono hal12; have hso13 := hso.mono hal12; have hsp13 := hsp3'.out.mono hb313; have hoz13 := own_later hoz.out hbk13; have hS5 := ptree_same 16 o o ta tn tc ua un uc ds ds W13 hDt13 hDu13 hk'.out.byt hk'.out.byt true (by simp); have q0 : W13.cell? ⟨gT, 0, none⟩ = some (.int .i64 o) := bT13.cell rfl; have q1 : W13.cell? ⟨gT, 1, none⟩ = some (.slice ua un uc) := bT13.cell rfl; have v0 : W13.cell? ⟨gZ, 0, none⟩ = some (.int .i64 o) := bZ.cell rfl; have v1 : W13.cell? ⟨gZ, 1, none⟩ = some (.slice ta tn tc) := bZ.cell rfl; rw [← hgZ] at v0 v1; rw [← hW13] at q0 q1 v0 v1; have hb12' := Lib.hid hb12; have hdt' := Lib.hid hdt; have hspt' := Lib.hid hspt; have hDt' := Lib.hid hDt; have hso' := Lib.hid hso; have hal12' := Lib.hid hal12; have bZ' := Lib.hid bZ; have hgZ' := Lib.hid hgZ; have hW13' := Lib.hid hW13; have hbk13' := Lib.hid hbk13; have hb313' := Lib.hid hb313; have hb013' := Lib.hid hb013; have bT13' := Lib.hid bT13; have hDu13' := Lib.hid hDu13; have hDt13' := Lib.hid hDt13; have hso13' := Lib.hid hso13; have hsp13' := Lib.hid hsp13; have hoz13' := Lib.hid hoz13; have hS5' := Lib.hid hS5; clear hb12 hdt hspt hDt hso hal12 bZ hgZ hW13 hbk13 hb313 hb013 bT13 hDu13 hDt13 hso13 hsp13 hoz13 hS5
            go_wp2_with fail
            try rw [hW13'.out]
            try rw [hgZ'.out]
            refine hS5'.out.mono ?_; rintro e w14 ⟨rfl, hb14⟩; clear q0 q1 v0 v1; have hS6 := spots_any oa pa on_ i oc pc s.spots s.spots w14 (hso13'.out.mono hb14) (hsp13'.out.mono hb14); have e9 : (s.spots == s.spots) = true := by simp
            rw [e9] at hS6; have hb014 := hb013'.out.trans (hb14.mono hb013'.out.size); have hoz14 := own_later hoz13'.out hb14; clear e9; have hb14' := Lib.hid hb14; have hS6' := Lib.hid hS6; have hb014' := Lib.hid hb014; have hoz14' := Lib.hid hoz14; clear hb14 hS6 hb014 hoz14
            go_wp2_with fail
            refine hS6'.out.mono ?_; rintro e w15 ⟨rfl, hq15⟩; have hb15 := hq15.below w14.heap.size; have hb015 := hb014'.out.trans (hb15.mono hb014'.out.size); have hoz15 := own_later hoz14'.out hb15; clear hq15
            by_cases hG0 : G = 0
            · have d1 : ((G : Int) == 0) = true := by simp [hG0]
              have d2 : decide ((0 : Int) < (G : Int)) = false := by simp [hG0]
              have hzz := hA3'.out hG0; obtain ⟨cz, hcz⟩ : ∃ x, cleanS z (shps zs) = x := ⟨_, rfl⟩; have hC7 := wclean_anyW hD (some ⟨g11, 0, none⟩) k c11 (zeL s.spots z k) qa qn qc zs w15 (Sl.of_own hoz15).1 (hz'.out.mono hb015) hByz'.out (by omega); rw [hzz, hcz] at hC7; have e5 : (cz == cz) = true := by simp
              clear hzz; have hb15' := Lib.hid hb15; have hb015' := Lib.hid hb015; have hoz15' := Lib.hid hoz15; have hG0' := Lib.hid hG0; have hcz' := Lib.hid hcz; have hC7' := Lib.hid hC7; clear hb15 hb015 hoz15 hG0 hcz hC7
              go_wp2_with fail
              refine hC7'.out.mono ?_; rintro e w16 ⟨rfl, hb16⟩; have hb016 := hb015'.out.trans (hb16.mono hb015'.out.size); have hC8 := hCl'.out w16 hb016; rw [hcz'.out] at hC8; have hb16' := Lib.hid hb16; have hb016' := Lib.hid hb016; have hC8' := Lib.hid hC8; clear hb16 hb016 hC8
              go_wp2_with fail
              refine hC8'.out.mono ?_; rintro e w17 ⟨rfl, hb17⟩; have hbwz := hb016'.out.trans (hb17.mono hb016'.out.size); have hb17' := Lib.hid hb17; clear hb17; have hbwz' := Lib.hid hbwz; clear hbwz
              go_wp2_with fail
              refine (awake_anyW hD _).mono ?_; rintro e w9 ⟨rfl, hb9⟩; have hbw9 := hbwz'.out.trans (hb9.mono hbwz'.out.size); have hb9' := Lib.hid hb9; have hbw9' := Lib.hid hbw9; clear hb9 hbw9
              go_wp2_with fail
              go_ret
              exact ⟨rfl, hbw9'.out⟩
            · have d1 : ((G : Int) == 0) = false := by simp [hG0]
              have d2 : decide ((0 : Int) < (G : Int)) = true := by simp; omega
              have hcz := hA4'.out hG0; have hC8 := hCl'.out w15 hb015; rw [hcz] at hC8; clear hcz; have hb15' := Lib.hid hb15; have hb015' := Lib.hid hb015; have hoz15' := Lib.hid hoz15; have hG0' := Lib.hid hG0; have hC8' := Lib.hid hC8; clear hb15 hb015 hoz15 hG0 hC8
              go_wp2_with fail
              refine hC8'.out.mono ?_; rintro e w17 ⟨rfl, hb17⟩; have hbwz := hb015'.out.trans (hb17.mono hb015'.out.size); have hb17' := Lib.hid hb17; clear hb17; have hbwz' := Lib.hid hbwz; clear hbwz
              go_wp2_with fail
              refine (awake_anyW hD _).mono ?_; rintro e w9 ⟨rfl, hb9⟩; have hbw9 := hbwz'.out.trans (hb9.mono hbwz'.out.size); have hb9' := Lib.hid hb9; have hbw9' := Lib.hid hbw9; clear hb9 hbw9
              go_wp2_with fail
              go_ret
              exact ⟨rfl, hbw9'.out⟩
theorem wagain_law (hD : DirOk) (a : Option Addr) (n c : Nat) (z : List Int) (qa : Option Addr) (qn qc : Nat) (zs : List Shz) (w : World) (hs : Sl w a n c 1 (ints .u8 z)) (hby : Byt z) (hz : ShR w qa qn qc zs) :
    Calls Tryz.prog 8 #[.slice a n c, .slice qa qn qc] w fun e w' => e = .returned (.bool true) ∧ Below w.heap.size w w' := wagain_any hD a n c z qa qn qc zs w hs hby hz
end Go.Proofs.YtilennmeiaehnaaGreat
