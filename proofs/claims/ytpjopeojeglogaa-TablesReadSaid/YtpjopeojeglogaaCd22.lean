/- Chapter 14: a frame's bytes, an interval's: the program. | Chapter 14: bytes taken one behind the other: the program's reader. -/
import Derived.Test.YtpjopeojeglogaaCd21
import Derived.Test.YtpjopeojeglogaaCd06
namespace Go.Proofs.Ytpjopeojeglogaa
open Go.RowKit Tt
set_option linter.unusedVariables false
set_option linter.unusedSimpArgs false

theorem put2 {n : Int} (h0 : 0 ≤ n) (h1 : n < 65536) : putOk n 2 2 = true ∧ putS n 2 2 = [n / 256, n % 256] := by
  have h : putOk n 2 2 = true := by
    unfold putOk topS
    simp
    omega
  refine ⟨h, ?_⟩; unfold putS; rw [if_pos h, if_neg (by decide)]
  show [(n / 256) % 256, n % 256] = _
  rw [show (n / 256) % 256 = n / 256 by omega]
def frmF (c : Cmp4) : List Int := [c.1, 16 * c.2.1 + c.2.2.1, c.2.2.2]
set_option maxRecDepth 20000 in
set_option maxHeartbeats 4000000 in
theorem frame_any (fw fh : Int) (a : Option Addr) (n c : Nat) (l : List Cmp4) (w : World) (hs : StR cmpL 4 w a n c l) (hn : n ≤ 100000) (hwf : ∀ x ∈ l, CmpWf x) (hfw : Wf fw) (hfh : Wf fh) :
    Calls Try.prog 39 #[.agg #[.int .i64 fw, .int .i64 fh, .slice a n c]] w (PayR w (if frmE fw fh l = 0 then some (frmW fw fh l) else none)) := by
  obtain ⟨i0, hi, hz0, hz1, hz2⟩ := info_parts info8; have hl := hs.len; have b1 := Blk.new w 56 #[.int .i64 fw, .int .i64 fh, .slice a n c]; have hb1 := (Below.refl w.heap.size w).alloc (Nat.le_refl _) (.cells #[.int .i64 fw, .int .i64 fh, .slice a n c] 56); obtain ⟨W1, hW1⟩ : ∃ W1, w.alloc (.cells #[.int .i64 fw, .int .i64 fh, .slice a n c] 56) = W1 := ⟨_, rfl⟩; rw [hW1] at b1 hb1; have HC := check_any fw fh a n c l W1 (hs.mono hb1) hn hwf hfw hfh; obtain ⟨R, hR⟩ : ∃ R, frmE fw fh l = R := ⟨_, rfl⟩; rw [hR] at HC ⊢; have k0 : W1.cell? ⟨w.heap.size, 0, none⟩ = some (.int .i64 fw) := b1.cell rfl; have k1 : W1.cell? ⟨w.heap.size, 1, none⟩ = some (.int .i64 fh) := b1.cell rfl; have k2 : W1.cell? ⟨w.heap.size, 2, none⟩ = some (.slice a n c) := b1.cell rfl
  by_cases h0 : R = 0
  · subst h0
    rw [if_pos rfl]; obtain ⟨h1, h2, p1, p2, p3, p4⟩ := frmE_ok hR; have h3 := idOk_len h2; rw [List.length_map, hl] at h3; obtain ⟨h3a, h3b⟩ := h3
    have hid : ∀ (j : Nat) (x : Cmp4), l[j]? = some x → 0 ≤ x.1 ∧ x.1 ≤ 255 ∧ 1 ≤ x.2.1 ∧ x.2.1 ≤ 4 ∧ 1 ≤ x.2.2.1 ∧ x.2.2.1 ≤ 4 ∧ 0 ≤ x.2.2.2 ∧ x.2.2.2 ≤ 3 := fun j x hx => by
      have hm := List.mem_of_getElem? hx; have q1 := List.all_eq_true.1 h1 x hm; unfold cmpOk at q1; rw [decide_eq_true_eq] at q1
      have q2 : (List.range (l.map (·.1)).length).all (symOk (l.map (·.1))) = true := by
        unfold idOk at h2; simp only [Bool.and_eq_true] at h2; exact h2.1
      have q3 := ((sym_all _).1 q2).1; unfold belowS at q3; have q4 := List.all_eq_true.1 q3 x.1 (List.mem_map_of_mem hm); rw [decide_eq_true_eq] at q4
      omega
    obtain ⟨T, hT⟩ : ∃ T, frmW fw fh l = T := ⟨_, rfl⟩; rw [hT]; have HP1 := fun W => put_any fh 2 2 W; have HP2 := fun W => put_any fw 2 2 W; obtain ⟨e1, e2⟩ := put2 (n := fh) (by omega) (by omega); obtain ⟨e3, e4⟩ := put2 (n := fw) (by omega) (by omega); rw [e1, e2] at HP1; rw [e3, e4] at HP2; clear h1 h2 e1 e2 e3 e4; have hs' := Lib.hid hs; have hl' := Lib.hid hl; have hid' := Lib.hid hid; have hR' := Lib.hid hR; have hT' := Lib.hid hT; have b1' := Lib.hid b1; have hb1' := Lib.hid hb1; have hW1' := Lib.hid hW1; have HC' := Lib.hid HC; have HP1' := Lib.hid HP1; have HP2' := Lib.hid HP2; clear hs hl hid hR hT b1 hb1 hW1 HC HP1 HP2
    go_enter Try.func39, Try.ntmps39
    go_wp2_with fail
    rw [hW1'.out]; refine HC'.out.mono ?_; rintro e w2 ⟨rfl, hb2⟩; have d2 := b1'.out.late hb2; have hbw2 := hb1'.out.trans (hb2.mono hb1'.out.size); clear hb2 k0 k1 k2; have g1 : w2.cell? ⟨w.heap.size, 1, none⟩ = some (.int .i64 fh) := d2.cell rfl; have d2' := Lib.hid d2; have hbw2' := Lib.hid hbw2; clear d2 hbw2
    go_wp2_with fail
    refine (HP1'.out _).mono ?_; rintro e w3 ⟨a3, m3, c3, rfl, ho3, hb3⟩; have hm3 : m3 = 2 := by have := (Sl.of_own ho3).1.ilen; simpa using this.symm
    subst hm3; have hs3 := (Sl.of_own ho3).1; have d3 := d2'.out.late hb3; have hbw3 := hbw2'.out.trans (hb3.mono hbw2'.out.size); clear hb3 ho3 g1; have g0 : w3.cell? ⟨w.heap.size, 0, none⟩ = some (.int .i64 fw) := d3.cell rfl; have d3' := Lib.hid d3; have hbw3' := Lib.hid hbw3; have hs3' := Lib.hid hs3; clear d3 hbw3 hs3
    go_wp2_with fail
    refine (HP2'.out _).mono ?_; rintro e w4 ⟨a4, m4, c4, rfl, ho4, hb4⟩; have hm4 : m4 = 2 := by have := (Sl.of_own ho4).1.ilen; simpa using this.symm
    subst hm4; have hs4 := (Sl.of_own ho4).1; have hs34 := hs3'.out.mono hb4; have d4 := d3'.out.late hb4; have hbw4 := hbw3'.out.trans (hb4.mono hbw3'.out.size); clear hb4 ho4 g0; have g2 : w4.cell? ⟨w.heap.size, 2, none⟩ = some (.slice a n c) := d4.cell rfl; obtain ⟨W5, hW5, q1, q2, q3, hb5, s5⟩ := three_boxes w4 5 #[.int .u8 8] 5 #[.int .u8 (n : Int)] 30 #[.slice (some ⟨w4.heap.size, 0, none⟩) 1 1, .slice a3 2 c3, .slice a4 2 c4, .slice (some ⟨w4.heap.size + 1, 0, none⟩) 1 1]
    have r3 : Sl W5 (some ⟨w4.heap.size + 2, 0, none⟩) 4 4 1 [.slice (some ⟨w4.heap.size, 0, none⟩) 1 1, .slice a3 2 c3, .slice a4 2 c4, .slice (some ⟨w4.heap.size + 1, 0, none⟩) 1 1] :=
      ⟨rfl, Nat.le_refl _, by omega, fun i hi => ⟨w4.heap.size + 2, 0, rfl, q3.lt, fun j v hj => q3.cell (by rw [Nat.zero_add]; simpa using hj)⟩, fun h => by cases h⟩
    have r1 : Sl W5 (some ⟨w4.heap.size, 0, none⟩) 1 1 1 (ints .u8 [8]) := ⟨rfl, Nat.le_refl _, by omega, fun i hi => ⟨w4.heap.size, 0, rfl, q1.lt, fun j v hj => q1.cell (by rw [Nat.zero_add]; simpa [ints] using hj)⟩, fun h => by cases h⟩; have r2 : Sl W5 (some ⟨w4.heap.size + 1, 0, none⟩) 1 1 1 (ints .u8 [(n : Int)]) := ⟨rfl, Nat.le_refl _, by omega, fun i hi => ⟨w4.heap.size + 1, 0, rfl, q2.lt, fun j v hj => q2.cell (by rw [Nat.zero_add]; simpa [ints] using hj)⟩, fun h => by cases h⟩
    have HCn := bconcat_any (some ⟨w4.heap.size + 2, 0, none⟩) 4 4 [(some ⟨w4.heap.size, 0, none⟩, 1, 1, [8]), (a3, 2, c3, [fh / 256, fh % 256]), (a4, 2, c4, [fw / 256, fw % 256]), (some ⟨w4.heap.size + 1, 0, none⟩, 1, 1, [(n : Int)])] W5 r3 (fun r hr => by
      simp only [List.mem_cons, List.not_mem_nil, or_false] at hr
      rcases hr with rfl | rfl | rfl | rfl
      · exact r1
      · exact hs34.mono hb5
      · exact hs4.mono hb5
      · exact r2) (by omega) (by simp)
    have d5 := d4.late hb5; have hbw5 := hbw4.trans (hb5.mono hbw4.size); clear r1 r2 r3 q1 q2 q3 hs34 hs4 hb5; have hn256 : (n : Int) % 256 = n := by omega
    have hlt4 : w.heap.size < w4.heap.size := d4.lt; have d4' := Lib.hid d4; have hbw4' := Lib.hid hbw4; have HCn' := Lib.hid HCn; have d5' := Lib.hid d5; have hbw5' := Lib.hid hbw5; have hW5' := Lib.hid hW5; have s5' := Lib.hid s5; clear d4 hbw4 HCn d5 hbw5 hW5 s5
    go_wp2_with fail
    rw [hW5'.out]; clear hn256 g2; refine HCn'.out.mono ?_; rintro e w6 ⟨a6, m6, c6, rfl, hm6, ho6, hb6⟩; have d6 := d5'.out.late hb6; have hbw6 := hbw5'.out.trans (hb6.mono hbw5'.out.size); have hsz5 : w.heap.size + 1 ≤ W5.heap.size := d5'.out.lt; have ho7 := own_mono ho6 hsz5; have hm6b : m6 = 6 := by rw [hm6]; rfl
    have e7 : (([(some ⟨w4.heap.size, 0, none⟩, 1, 1, [8]), (a3, 2, c3, [fh / 256, fh % 256]), (a4, 2, c4, [fw / 256, fw % 256]), (some ⟨w4.heap.size + 1, 0, none⟩, 1, 1, [(n : Int)])] : List Rw4).map (·.2.2.2)).flatten = [8, fh / 256, fh % 256, fw / 256, fw % 256, (n : Int)] := rfl; rw [e7] at ho7; have g2 : w6.cell? ⟨w.heap.size, 2, none⟩ = some (.slice a n c) := d6.cell rfl; clear hb6 ho6 e7 hm6; have d6' := Lib.hid d6; have hbw6' := Lib.hid hbw6; have ho7' := Lib.hid ho7; have hm6b' := Lib.hid hm6b; have hsz5' := Lib.hid hsz5; clear d6 hbw6 ho7 hm6b hsz5; have hm6c : m6 ≤ 6 := by have := hm6b'.out; omega
    go_wp2
    go_loopw [8, 10, 39] (fun bv _ iv wr => ∃ (k m : Nat) (a3 : Option Addr) (c3 : Nat), k ≤ n ∧ m ≤ 6 + 3 * k ∧ iv = .int .i64 k ∧ bv = .slice a3 m c3 ∧ Hid (wr.ownsRow (w.heap.size + 1) 5 1 (.slice a3 m c3) m (ints .u8 ([8, fh / 256, fh % 256, fw / 256, fw % 256, (n : Int)] ++ flatW frmF l k))) ∧ Hid (w.heap.size + 1 ≤ wr.heap.size) ∧ Hid (Below w.heap.size w wr)) (fun _ _ iv _ => n - (intOf iv).toNat)
    case atStart => exact ⟨0, m6, a6, c6, by omega, by omega, rfl, rfl, Lib.hid (by show w6.ownsRow _ _ _ _ _ (ints .u8 (_ ++ [])); rw [List.append_nil]; exact ho7'.out), Lib.hid d6'.out.lt, hbw6'⟩
    case round =>
      obtain ⟨k, m, a3, c3, hk, hm, rfl, rfl, Ob, hsz, hbel⟩ := hrel
      by_cases hlt : k < n
      · obtain ⟨x, hx⟩ : ∃ x, l[k]? = some x := ⟨_, List.getElem?_eq_getElem (by rw [hl'.out]; exact hlt)⟩
        obtain ⟨bb, o, rfl, hbb, f⟩ := (hs'.out.mono hbel.out).elem cmpL_len hx; have hsn := flatW_snoc (f := frmF) hx; have hxx := hid'.out k x hx; obtain ⟨x0, x1, x2, x3⟩ := x; obtain ⟨v1, v2, v3, v4, v5, v6, v7, v8⟩ := hxx; simp only at v1 v2 v3 v4 v5 v6 v7 v8; have f0 : wr.cell? ⟨bb, o + k * 4, none⟩ = some (.int .i64 x0) := f 0 _ rfl; have f1 : wr.cell? ⟨bb, o + k * 4 + 1, none⟩ = some (.int .i64 x1) := f 1 _ rfl; have f2 : wr.cell? ⟨bb, o + k * 4 + 2, none⟩ = some (.int .i64 x2) := f 2 _ rfl; have f3 : wr.cell? ⟨bb, o + k * 4 + 3, none⟩ = some (.int .i64 x3) := f 3 _ rfl; have hor := or16 (a := x1) (b := x2) (by omega) (by omega) (by omega) (by omega); have hal2 := (Below.refl wr.heap.size wr).alloc (Nat.le_refl _) (.cells #[.int .i64 x0, .int .i64 x1, .int .i64 x2, .int .i64 x3] 167); have Ob2 := own_later Ob.out hal2; have hb2w := hbel.out.trans (hal2.mono hbel.out.size); obtain ⟨W2, hW2⟩ : ∃ W2, wr.alloc (.cells #[.int .i64 x0, .int .i64 x1, .int .i64 x2, .int .i64 x3] 167) = W2 := ⟨_, rfl⟩; have bA := Blk.new wr 167 #[.int .i64 x0, .int .i64 x1, .int .i64 x2, .int .i64 x3]; rw [hW2] at Ob2 hb2w bA; have g0 : W2.cell? ⟨wr.heap.size, 0, none⟩ = some (.int .i64 x0) := bA.cell rfl; have g1 : W2.cell? ⟨wr.heap.size, 1, none⟩ = some (.int .i64 x1) := bA.cell rfl; have g4 : W2.cell? ⟨wr.heap.size, 2, none⟩ = some (.int .i64 x2) := bA.cell rfl; have g5 : W2.cell? ⟨wr.heap.size, 3, none⟩ = some (.int .i64 x3) := bA.cell rfl; have hsz3 : w.heap.size + 1 ≤ W2.heap.size := by have := bA.lt; have := hsz.out; omega
        clear f hal2; have hx' := Lib.hid hx; have hsn' := Lib.hid hsn; have Ob2' := Lib.hid Ob2; have hb2w' := Lib.hid hb2w; have hW2' := Lib.hid hW2; have bA' := Lib.hid bA; have hm' := Lib.hid hm; have hsz3' := Lib.hid hsz3; clear hx hsn Ob2 hb2w hW2 bA hm hsz3; have hmb : m ≤ 100 := by have := hm'.out; omega
        go_upto_region 9 with fail
        rw [hW2'.out]; clear f0 f1 f2 f3
        go_wp2_with (at_builtin; refine wpList_app rfl _ _ 30 rfl (w.heap.size + 1) 5 i0 _ 1 1 Try.underlying30 hi hz0 hz1 hz2 rfl (by decide) _ m _ rfl (World.ownsRow.alloc Ob2'.out _) _ 3 3 _ rfl (Sl.new W2 5 1 3 #[.int .u8 x0, .int .u8 (16 * x1 + x2), .int .u8 x3] (0, 0) (by omega) rfl) (by simp [Value.oneCell']) (by omega) (by decide) (by have := hsz3'.out; simp; omega) ?_; intro a6 c6 w6 ob6 hb6 hg6; have Ob6 := Lib.hid ob6; have Hb6 := Lib.hid (((Below.refl (w.heap.size + 1) W2).alloc hsz3'.out (.cells #[.int .u8 x0, .int .u8 (16 * x1 + x2), .int .u8 x3] 5)).trans hb6); clear ob6 hb6 hg6)
        clear hor; have n1 := hb2w'.out.trans (Hb6.out.mono (Nat.le_succ _)); have n2 := Nat.le_trans hsz3'.out Hb6.out.size; have n1' := Lib.hid n1; have n2' := Lib.hid n2; clear n1 n2
        go_roundw
        case rel => exact ⟨k + 1, m + 3, a6, c6, by omega, by have := hm'.out; omega, by go_num, rfl, Lib.hid (by rw [hsn'.out, ← List.append_assoc, ints_append]; exact Ob6.out), n2', n1'⟩
        case measure => simp [intOf]; omega
      · have hkn : k = n := by omega
        have Ob2 := Ob.out; rw [hkn] at Ob2
        have hRe : [8, fh / 256, fh % 256, fw / 256, fw % 256, (n : Int)] ++ flatW frmF l n = T := by
          rw [← hT'.out]; unfold frmW flatW frmF; rw [List.take_of_length_le (by rw [hl'.out]; exact Nat.le_refl _), hl'.out]
        rw [hRe] at Ob2; have Ob3 := own_mono Ob2 (Nat.le_succ w.heap.size); clear hRe Ob2; have Ob3' := Lib.hid Ob3; have hkn' := Lib.hid hkn; clear Ob3 hkn
        go_wp2
        go_ret2
        exact ⟨hbel.out, a3, m, c3, rfl, Ob3'.out⟩
  · rw [if_neg h0]
    have hnb : (R != 0) = true := by simpa using h0
    clear h0; have hs' := Lib.hid hs; have hl' := Lib.hid hl; have hR' := Lib.hid hR; have b1' := Lib.hid b1; have hb1' := Lib.hid hb1; have hW1' := Lib.hid hW1; have HC' := Lib.hid HC; clear hs hl hR b1 hb1 hW1 HC
    go_enter Try.func39, Try.ntmps39
    go_wp2_with fail
    rw [hW1'.out]; refine HC'.out.mono ?_; rintro e w2 ⟨rfl, hb2⟩; have hbw2 := hb1'.out.trans (hb2.mono hb1'.out.size); clear hb2; have hbw2' := Lib.hid hbw2; clear hbw2
    go_wp2
    go_ret2
    exact ⟨hbw2'.out, rfl⟩
end Go.Proofs.Ytpjopeojeglogaa

namespace Tt
open Go Go.RowKit
set_option linter.unusedVariables false
set_option linter.unusedSimpArgs false
theorem fold_set (off : Nat) : ∀ (l : List Value) (k : Nat) (cs : Array Value), off + k + l.length ≤ cs.size →
    ((l.zipIdx k).foldl (fun cs (p : Value × Nat) => cs.setIfInBounds (off + p.2) p.1) cs).toList = cs.toList.take (off + k) ++ l ++ cs.toList.drop (off + k + l.length)
  | [], k, cs, h => by simp
  | x :: l, k, cs, h => by
    have hl : off + (k + 1) + l.length ≤ (cs.setIfInBounds (off + k) x).size := by simp at h ⊢; omega
    have ih := fold_set off l (k + 1) (cs.setIfInBounds (off + k) x) hl; simp only [List.zipIdx_cons, List.foldl_cons]; rw [ih]; have hk : off + k < cs.size := by simp at h; omega
    rw [Array.toList_setIfInBounds]
    apply List.ext_getElem?
    intro i; simp only [List.getElem?_append, List.length_append, List.length_take, List.length_set, Array.length_toList, List.length_cons, List.getElem?_take, List.getElem?_drop, List.getElem?_set]; have e1 : min (off + (k + 1)) cs.size = off + k + 1 := by omega
    have e2 : min (off + k) cs.size = off + k := by omega
    rw [e1, e2]
    by_cases c1 : i < off + k
    · simp [c1, show i < off + k + 1 by omega, show i < off + (k + 1) by omega, show i < off + k + 1 + l.length by omega, show i < off + k + (l.length + 1) by omega, show off + k ≠ i by omega]
    · by_cases c2 : i = off + k
      · subst c2
        simp [hk, show off + k < off + (k + 1) by omega, show off + k < off + k + 1 + l.length by omega]
      · by_cases c3 : i < off + k + 1 + l.length
        · have : i - (off + k) = (i - (off + k + 1)) + 1 := by omega
          simp [c1, c3, show ¬ i < off + k + 1 by omega, show i < off + k + (l.length + 1) by omega, this]
        · simp [c3, show ¬ i < off + k + (l.length + 1) by omega, show off + (k + 1) + l.length + (i - (off + k + 1 + l.length)) = off + k + (l.length + 1) + (i - (off + k + (l.length + 1))) by omega]
          intro hh
          omega
section
variable {P : Program} {ops : Array Oper} {rest : List Oper} {o : Oper} {a : Act} {w : World} {Q : Exit → Act → World → Prop}
theorem wpList_built (hg : o.guard = none) (t : TypeId) (parts : Array (Nat × Operand)) (ho : o.op = .build t parts) (cells : Array Value) (hf : P.built t (parts.map fun (i, x) => (i, a.eval x)).toList = some cells)
    (h : wpList P ops Q rest (a.put o.dst (.agg cells)) w) : wpList P ops Q (o :: rest) a w :=
  wpList_build hg t parts ho (by rw [hf]; rfl) (by rw [hf]; exact h)
theorem wpList_built2 (hg : o.guard = none) (t : TypeId) (parts : Array (Nat × Operand)) (ho : o.op = .build t parts) (ps : List (Nat × Value)) (cells : Array Value) (hp : (parts.map fun (i, x) => (i, a.eval x)).toList = ps) (hf : P.built t ps = some cells)
    (h : wpList P ops Q rest (a.put o.dst (.agg cells)) w) : wpList P ops Q (o :: rest) a w :=
  wpList_built hg t parts ho cells (by rw [hp]; exact hf) h
end
end Tt
namespace Go.Proofs.Ytpjopeojeglogaa
open Go.RowKit Tt
set_option linter.unusedVariables false
set_option linter.unusedSimpArgs false
theorem sizeU8 (w : World) : (Go.sizeOf 5).run Try.prog w = .ok 1 w := by kernel_rfl
/-- what stands behind the pointer of a reader: the bytes that are left -/
structure Rd (w : World) (rb : Nat) (a : Option Addr) (n c : Nat) (z : List Int) : Prop where
  blk : Blk w rb 189 #[.slice a n c]
  sl : Sl w a n c 1 (ints .u8 z)
  ne : ∀ x, a = some x → x.block ≠ rb
theorem take_no (rb : Nat) (a : Option Addr) (n c : Nat) (z : List Int) (k : Nat) (w : World) (h : Rd w rb a n c z) (hk : n < k) (hkb : k ≤ 1000000) :
    Calls Try.prog 130 #[.pointer (some ⟨rb, 0, none⟩), .int .i64 k] w fun e w' => e = .returned (.tuple #[.slice none 0 0, .bool false]) ∧ w = w' := by
  have c0 : w.cell? ⟨rb, 0, none⟩ = some (.slice a n c) := h.blk.cell rfl; have hd : decide ((n : Int) < k) = true := by simp; omega
  have hd2 : decide (n < k) = true := by simp; omega
  clear h
  go_enter Try.func130, Try.ntmps130
  go_wp2
  go_ret2
  exact ⟨rfl, rfl⟩
theorem take_yes (rb : Nat) (a : Option Addr) (n c : Nat) (z : List Int) (k : Nat) (w : World) (h : Rd w rb a n c z) (hk : k ≤ n) (hkb : k ≤ 1000000) :
    Calls Try.prog 130 #[.pointer (some ⟨rb, 0, none⟩), .int .i64 k] w fun e w' => ∃ a1 c1 a2 c2, e = .returned (.tuple #[.slice a1 k c1, .bool true]) ∧ Sl w' a1 k c1 1 (ints .u8 (z.take k)) ∧ In a1 a ∧ Rd w' rb a2 (n - k) c2 (z.drop k) ∧ In a2 a ∧ But rb w w' := by
  have c0 : w.cell? ⟨rb, 0, none⟩ = some (.slice a n c) := h.blk.cell rfl; have f0 := h.blk.frozen 0; have hle := h.sl.le; have hd : decide ((n : Int) < k) = false := by simp; omega
  obtain ⟨a1, r1, s1, i1⟩ := sub_h (P := Try.prog) Try.underlying30 sizeU8 h.sl k (by omega) (by omega) k rfl; obtain ⟨a2, r2, s2, i2⟩ := sub_l (P := Try.prog) Try.underlying30 sizeU8 h.sl k (by omega) (by omega) (n - k) (c - k) (by omega) (by omega); have hbt : But rb w (w.setCell ⟨rb, 0, none⟩ (.slice a2 (n - k) (c - k))) := (But.refl rb w).set 0 _; have hn1 := i1.ne h.ne; have hn2 := i2.ne h.ne; have t1 := s1.but hbt hn1; have t2 := s2.but hbt hn2; have hb2 : Blk (w.setCell ⟨rb, 0, none⟩ (.slice a2 (n - k) (c - k))) rb 189 #[.slice a2 (n - k) (c - k)] := h.blk.set 0 _; have e1 : (ints .u8 z).take (k * 1) = ints .u8 (z.take k) := by unfold ints; rw [List.map_take, Nat.mul_one]
  have e2 : (ints .u8 z).drop ((k : Int).toNat * 1) = ints .u8 (z.drop k) := by unfold ints; rw [List.map_drop, Nat.mul_one]; rfl
  rw [e1] at t1; rw [e2] at t2; have hfin : Rd (w.setCell ⟨rb, 0, none⟩ (.slice a2 (n - k) (c - k))) rb a2 (n - k) (c - k) (z.drop k) := ⟨hb2, t2, hn2⟩; clear h s1 s2 e1 e2 t2 hb2 hn1 hn2
  generalize n - k = nk at *
  generalize c - k = ck at *
  have hbt' := Lib.hid hbt; have t1' := Lib.hid t1; have hfin' := Lib.hid hfin; have i1' := Lib.hid i1; have i2' := Lib.hid i2; clear hbt t1 hfin i1 i2
  go_enter Try.func130, Try.ntmps130
  go_wp2
  go_ret2
  exact ⟨a1, c, a2, ck, rfl, t1'.out, i1'.out, hfin'.out, i2'.out, hbt'.out⟩
end Go.Proofs.Ytpjopeojeglogaa
