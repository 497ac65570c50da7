/- Chapter 14: a quantisation table taken from bytes: the program. -/
import Derived.Test.YtpjopeojeglogaaCd22
namespace Go.Proofs.Ytpjopeojeglogaa
open Go.RowKit Tt
set_option linter.unusedVariables false
set_option linter.unusedSimpArgs false

theorem sl_monoB {w w' : World} {a : Option Addr} {n c sz B : Nat} {cs : List Value} (h : Sl w a n c sz cs) (hB : ∀ x, a = some x → x.block < B) (hb : Below B w w') : Sl w' a n c sz cs :=
  ⟨h.len, h.le, h.max, fun i hi => by
    obtain ⟨b, off, e, hlt, hc⟩ := h.lies i hi; have hg : b < B := hB _ e; exact ⟨b, off, e, Nat.lt_of_lt_of_le hlt hb.size, fun j v hv => (hb.cell (p := ⟨b, off + j, none⟩) hg).trans (hc j v hv)⟩, h.fit⟩
theorem in_lt {a2 a : Option Addr} {B : Nat} (h : In a2 a) (hB : ∀ x, a = some x → x.block < B) : ∀ x, a2 = some x → x.block < B := fun x hx => by
  obtain ⟨y, h1, h2⟩ := h x hx; rw [← h2]; exact hB y h1
theorem Rd.monoB {w w' : World} {rb : Nat} {a : Option Addr} {n c B : Nat} {z : List Int} (h : Rd w rb a n c z) (hB : ∀ x, a = some x → x.block < B) (hr : rb < B) (hb : Below B w w') : Rd w' rb a n c z := ⟨h.blk.mono hb hr, sl_monoB h.sl hB hb, h.ne⟩
theorem gath_id {t : List Int} (h : t.length = 64) : gath (List.range 64) t 64 = t := ext64 (gath_len _ _ _) h fun i hi => by
  rw [gath_get _ _ _ hi, if_pos hi, List.getD_eq_getElem?_getD (l := List.range 64), List.getElem?_range hi]
  rfl
theorem gath_id_step (t : List Int) {n : Nat} (hn : n < 64) : (gath (List.range 64) t n).set n (t.getD n 0) = gath (List.range 64) t (n + 1) := by
  have h := gath_step (List.range 64) t hn; have e : (List.range 64).getD n 0 = n := by rw [List.getD_eq_getElem?_getD, List.getElem?_range hn]; rfl
  rw [e] at h; exact h
theorem but_of_set {b : Nat} {w w' w'' : World} (h : But b w w') (k : Below w.heap.size w' w'') : But b w w'' :=
  ⟨k.os.trans h.os, k.tape.trans h.tape, k.output.trans h.output, Nat.le_trans h.size k.size, fun i hi hb => (k.block i hi).trans (h.block i hi hb)⟩
/-- what a take hands back of a struct of z cells -/
def TakR {α : Type} (z : Nat) (C : α → List Value) (rb : Nat) (a : Option Addr) (n : Nat) (zs : List Int) (t : Int × α × Nat) (w : World) (e : Ending) (w' : World) : Prop :=
  ∃ cs, e = .returned (.tuple #[.agg cs, .int .i64 t.1]) ∧ cs.size = z ∧ cs.all (·.oneCell') = true ∧ But rb w w' ∧ (t.1 = 0 → cs = (C t.2.1).toArray ∧ t.2.2 ≤ n ∧ ∃ a2 c2, Rd w' rb a2 (n - t.2.2) c2 (zs.drop t.2.2) ∧ In a2 a)
theorem zeroQ_one : Try.zeroCells172.all (·.oneCell') = true := by kernel_rfl
theorem builtQ0 : Try.prog.built 172 [] = some Try.zeroCells172 := by kernel_rfl
set_option maxRecDepth 20000 in
theorem builtQ (x : Int) (t : List Int) (ht : t.length = 64) : Try.prog.built 172 [(0, .int .i64 x), (1, .agg (ints .i64 t).toArray)] = some (qC (x, t)).toArray := by
  have e : Try.prog.built 172 [(0, .int .i64 x), (1, .agg (ints .i64 t).toArray)] = Instr.fill (fun i => #[(0, 1), (1, 64)][i]?) Try.zeroCells172 [(0, .int .i64 x), (1, .agg (ints .i64 t).toArray)] := by kernel_rfl
  rw [e]; have hz : (Try.zeroCells172).size = 65 := zeroQ; have hs : (ints .i64 t).toArray.size = 64 := ints_size ht
  generalize Try.zeroCells172 = Z at *
  simp only [Instr.fill, Value.cells]; have h1 : (#[(0, 1), (1, 64)] : Array (Nat × Nat))[0]? = some (0, 1) := rfl; have h2 : (#[(0, 1), (1, 64)] : Array (Nat × Nat))[1]? = some (1, 64) := rfl; simp only [h1, h2, hs, hz]; simp only [List.size_toArray, List.length_cons, List.length_nil, Nat.zero_add, ne_eq, not_true_eq_false, decide_false, Bool.false_or, decide_eq_true_eq, Nat.reduceAdd, Nat.reduceLT, gt_iff_lt, if_false]; have hf := fold_set 1 (ints .i64 t) 0 (Z.setIfInBounds 0 (.int .i64 x)) (by rw [ints_len, ht]; simp [hz]); have hA : Array.foldl (fun cs (x : Value × Nat) => cs.setIfInBounds x.snd x.fst) Z #[Value.int .i64 x].zipIdx = Z.setIfInBounds 0 (.int .i64 x) := rfl; rw [hA, if_neg (by simp), if_neg (by simp [hz])]
  congr 1
  apply Array.ext'
  have hB : Array.foldl (fun cs (x : Value × Nat) => cs.setIfInBounds (1 + x.snd) x.fst) (Z.setIfInBounds 0 (.int .i64 x)) (ints .i64 t).toArray.zipIdx = List.foldl (fun cs (x : Value × Nat) => cs.setIfInBounds (1 + x.snd) x.fst) (Z.setIfInBounds 0 (.int .i64 x)) (ints .i64 t).zipIdx := by
    rw [← Array.foldl_toList]
    simp
  rw [hB, hf]; have hl : Z.toList.length = 65 := by simpa using hz
  rw [Array.toList_setIfInBounds]
  have e1 : (Z.toList.set 0 (.int .i64 x)).take (1 + 0) = [.int .i64 x] := by
    cases hZ : Z.toList with
    | nil => rw [hZ] at hl; simp at hl
    | cons y l => rfl
  rw [e1, List.drop_of_length_le (by rw [List.length_set, hl, ints_len, ht]; omega), List.append_nil]
  rfl
theorem rowBut {b : Nat} {w w' : World} (h : But b w w') {g : Nat} (hg : w.heap.size ≤ g) (cs : Array Value) : But b w (w'.setRow g cs) :=
  but_of_set h (rowBelow (Below.refl _ _) hg cs)
set_option maxRecDepth 20000 in
set_option maxHeartbeats 4000000 in
theorem quantOf_any (rb : Nat) (a : Option Addr) (n c : Nat) (z : List Int) (w : World) (h : Rd w rb a n c z) (hlt : ∀ x, a = some x → x.block < w.heap.size) (hz : Byt z) (hn : n ≤ 100000) :
    Calls Try.prog 126 #[.pointer (some ⟨rb, 0, none⟩)] w (TakR 65 qC rb a n z (takeQ z) w) := by
  have hzl := h.sl.ilen; have hrb := h.blk.lt; obtain ⟨t, ht⟩ : ∃ t, takeQ z = t := ⟨_, rfl⟩; rw [ht]; have b1 := Blk.new w 172 Try.zeroCells172; have hb1 := (Below.refl w.heap.size w).alloc (Nat.le_refl _) (.cells Try.zeroCells172 172); obtain ⟨W1, hW1⟩ : ∃ W1, w.alloc (.cells Try.zeroCells172 172) = W1 := ⟨_, rfl⟩; rw [hW1] at b1 hb1; have h1 : Rd W1 rb a n c z := ⟨h.blk.late hb1, h.sl.mono hb1, h.ne⟩
  by_cases hkn : 65 ≤ n
  · have HT := take_yes rb a n c z 65 W1 h1 hkn (by omega)
    clear h; have HT' := Lib.hid HT; have h1' := Lib.hid h1; have hb1' := Lib.hid hb1; have b1' := Lib.hid b1; have hW1' := Lib.hid hW1; have ht' := Lib.hid ht; have hz' := Lib.hid hz; have hzl' := Lib.hid hzl; clear HT h1 hb1 b1 hW1 ht hz hzl
    go_enter Try.func126, Try.ntmps126
    go_wp2_with fail
    rw [hW1'.out]; refine HT'.out.mono ?_; rintro e w2 ⟨a1, c1, a2, c2, rfl, s1, i1, r1, i2, bt1⟩; have b2 : Blk w2 w.heap.size 172 Try.zeroCells172 := b1'.out.but bt1 (by omega); have l1 : ∀ x, a1 = some x → x.block < w.heap.size := in_lt i1 hlt; have l2 : ∀ x, a2 = some x → x.block < w.heap.size := in_lt i2 hlt; have hsz2 : w.heap.size < w2.heap.size := b2.lt; obtain ⟨bb, o, rfl, hbb, f⟩ := s1.at (show 0 < 65 by omega); have hbw : bb < w.heap.size := l1 _ rfl; have hz0 : (z.take 65).getD 0 0 = z.getD 0 0 := by rw [List.getD_eq_getElem?_getD, List.getElem?_take, if_pos (by omega), ← List.getD_eq_getElem?_getD]
    have hzt : (z.take 65).length = 65 := by rw [List.length_take, hzl'.out]; omega
    have f0 : w2.cell? ⟨bb, o, none⟩ = some (.int .u8 (z.getD 0 0)) := f 0 _ (by rw [ints_get (by rw [hzt]; omega), hz0]); obtain ⟨a18, hcut, s18, i18⟩ := sub_l (P := Try.prog) Try.underlying30 sizeU8 s1 1 (by omega) (by omega) 64 (c1 - 1) (by omega) (by have := s1.le; omega); have l18 : ∀ x, a18 = some x → x.block < w.heap.size := in_lt i18 l1; obtain ⟨tt, htt⟩ : ∃ tt, (z.drop 1).take 64 = tt := ⟨_, rfl⟩
    have e18 : (ints .u8 (z.take 65)).drop ((1 : Int).toNat * 1) = ints .u8 tt := by
      rw [← htt]; unfold ints; rw [← List.map_drop, List.drop_take]
      rfl
    rw [e18] at s18; have htl : tt.length = 64 := by rw [← htt, List.length_take, List.length_drop, hzl'.out]; omega
    have htb : Byt tt := by rw [← htt]; exact (hz'.out.drop 1).take 64
    have hz0b := hz'.out.get 0
    have htq : t = if qOk (z.getD 0 0, frZ tt) = true then (0, (z.getD 0 0, frZ tt), 65) else (2, (0, []), 0) := by
      rw [← ht'.out]; unfold takeQ; rw [if_neg (by rw [hzl'.out]; omega), htt]
    obtain ⟨z0, hz00⟩ : ∃ x, z.getD 0 0 = x := ⟨_, rfl⟩; rw [hz00] at f0 hz0b htq; obtain ⟨hz0a, hz0c⟩ := hz0b; have hal3 := (Below.refl w2.heap.size w2).alloc (Nat.le_refl _) (.cells z64 129); have b6 : B64 (w2.alloc (.cells z64 129)) w2.heap.size 129 (gath (List.range 64) tt 0) := ⟨gath_len _ _ _, by rw [(zeros64 _ _).1]; exact Blk.new w2 129 z64⟩; obtain ⟨w3, hw3⟩ : ∃ w3, w2.alloc (.cells z64 129) = w3 := ⟨_, rfl⟩; rw [hw3] at hal3 b6; have hbe3 : Below w.heap.size w2 w3 := hal3.mono (Nat.le_of_lt hsz2); have b3 := b2.late hal3; unfold z64 at hw3
    generalize c1 - 1 = c18 at *
    have hbt2 : But rb w w2 := ⟨bt1.os.trans hb1'.out.os, bt1.tape.trans hb1'.out.tape, bt1.output.trans hb1'.out.output, by omega, fun k hk hne => (bt1.block k (Nat.lt_of_lt_of_le hk hb1'.out.size) hne).trans (hb1'.out.block k hk)⟩; have hf0 : w2.cell? ⟨bb, o, none⟩ = some (.int .u8 (z.getD 0 0)) := by rw [hz00]; exact f0
    clear f hz0 hal3 e18 i18 s1 b2 i1 bt1; have hz00' := Lib.hid hz00; have s18' := Lib.hid s18; have htt' := Lib.hid htt; have htl' := Lib.hid htl; have htb' := Lib.hid htb; have htq' := Lib.hid htq; have hw3' := Lib.hid hw3; have hbe3' := Lib.hid hbe3; have b3' := Lib.hid b3; have b6' := Lib.hid b6; have r1' := Lib.hid r1; have hbt2' := Lib.hid hbt2; have hf0' := Lib.hid hf0; have i2' := Lib.hid i2; clear hz00 s18 htt htl htb htq hw3 hbe3 b3 b6 r1 hbt2 hf0 i2
    go_upto_region 5 with fail
    rw [hw3'.out]
    go_wp2
    clear f0 hcut
    go_loopw [7, 8, 20] (fun _ _ iv wr => ∃ k : Nat, k ≤ 64 ∧ iv = .int .i64 k ∧ Hid (B64 wr w2.heap.size 129 (gath (List.range 64) tt k)) ∧ Hid (Blk wr w.heap.size 172 Try.zeroCells172) ∧ Hid (Below w.heap.size w2 wr)) (fun _ _ iv _ => 64 - (intOf iv).toNat)
    case atStart => exact ⟨0, by omega, rfl, b6', b3', hbe3'⟩
    case round =>
      obtain ⟨k, hk, rfl, h6, h3, hbe⟩ := hrel
      by_cases hlt2 : k < 64
      · have s19 := sl_monoB s18'.out l18 hbe.out
        obtain ⟨b8, o8, rfl, hb8, f⟩ := s19.at hlt2; obtain ⟨x, hx⟩ : ∃ x, tt[k]? = some x := ⟨_, List.getElem?_eq_getElem (by rw [htl'.out]; exact hlt2)⟩; have hxd : tt.getD k 0 = x := by rw [List.getD_eq_getElem?_getD, hx]; rfl
        have f1 : wr.cell? ⟨b8, o8 + k, none⟩ = some (.int .u8 x) := f k _ (by rw [ints_get (by rw [htl'.out]; exact hlt2), hxd]); have hxb := htb'.out x (List.mem_of_getElem? hx); obtain ⟨hx0, hx1⟩ := hxb; have hst := gath_id_step tt hlt2; rw [hxd] at hst; have f2 := h6.out.cell hlt2; have f3 := h6.out.frozen k; have n1 := h6.out.set k x; rw [hst] at n1; have n2 := h3.out.set_other (g' := w2.heap.size) (by omega) k (.int .i64 x); have n3 := hbe.out.setCell (p := ⟨w2.heap.size, k, none⟩) (by show w.heap.size ≤ w2.heap.size; omega) (.int .i64 x)
        generalize (gath (List.range 64) tt k).getD k 0 = y at f2
        clear f s19; have hx' := Lib.hid hx; have hxd' := Lib.hid hxd; have hst' := Lib.hid hst; have n1' := Lib.hid n1; have n2' := Lib.hid n2; have n3' := Lib.hid n3; clear hx hxd hst n1 n2 n3
        go_wp2
        go_roundw
        case rel => exact ⟨k + 1, by omega, by go_num, n1', n2', n3'⟩
        case measure => simp [intOf]; omega
      · have hk64 : k = 64 := by omega
        have h6' := h6.out; rw [hk64, gath_id htl'.out] at h6'; obtain ⟨wD, hwD, d1, d2, d3⟩ : ∃ wD, wr.drew = wD ∧ B64 wD w2.heap.size 129 tt ∧ Blk wD w.heap.size 172 Try.zeroCells172 ∧ Below w.heap.size w2 wD := ⟨_, rfl, h6', h3.out, hbe.out.drew⟩; have f0 : w2.cell? ⟨bb, o, none⟩ = some (.int .u8 z0) := by rw [← hz00'.out]; exact hf0'.out
        have f0D : wD.cell? ⟨bb, o, none⟩ = some (.int .u8 z0) := (d3.cell (p := ⟨bb, o, none⟩) hbw).trans f0; obtain ⟨Ty, ff, hne, q0, hsurj⟩ := pr_worlds (fun W => W.cell? ⟨bb, o, none⟩ = some (.int .u8 z0)) wD f0D; have HS := Lib.hid (hsurj _ f0D); obtain ⟨T, hT⟩ : ∃ T, (ints .i64 tt).toArray = T := ⟨_, rfl⟩; have HF := pfrom_any tt T hT wD htl'.out; obtain ⟨Z, hZ⟩ : ∃ Z, (ints .i64 (frZ tt)).toArray = Z := ⟨_, rfl⟩; rw [hZ] at HF; have hbq := builtQ z0 (frZ tt) (frZ_len _); rw [hZ] at hbq; have hqlen : ((z0, frZ tt) : Qt64).2.length = 64 := frZ_len tt; have hone := qC_one (q := (z0, frZ tt)); have hq65 : (qC (z0, frZ tt)).toArray.size = 65 := by simpa using qC_len hqlen
        have HQ := fun W => qmay_any (frZ tt) Z hZ W (frZ_len _); obtain ⟨q, hq⟩ : ∃ q : Qt64, (z0, frZ tt) = q := ⟨_, rfl⟩; rw [hq] at hbq hone hq65; obtain ⟨B, hB⟩ : ∃ B, (qC q).toArray = B := ⟨_, rfl⟩; rw [hB] at hbq hone hq65; have g3 : ∀ j v, (ints .i64 tt)[j]? = some v → wD.cell? ⟨w2.heap.size, 0 + j, none⟩ = some v := fun j v hv => d1.2.cell (by rw [Nat.zero_add, List.getElem?_toArray]; exact hv); have hl3 : (ints .i64 tt).length = 64 := by rw [ints_len]; exact htl'.out
        clear h6' f0 f0D; have hwD' := Lib.hid hwD; have d1' := Lib.hid d1; have d2' := Lib.hid d2; have d3' := Lib.hid d3; have hsurj' := Lib.hid hsurj; have hT' := Lib.hid hT; have HF' := Lib.hid HF; have hZ' := Lib.hid hZ; have hbq' := Lib.hid hbq; have hqlen' := Lib.hid hqlen; have hone' := Lib.hid hone; have hq65' := Lib.hid hq65; have HQ' := Lib.hid HQ; have hq' := Lib.hid hq; have hB' := Lib.hid hB; have g3' := Lib.hid g3; have hl3' := Lib.hid hl3; have hk64' := Lib.hid hk64; clear hwD d1 d2 d3 hsurj hT HF hZ hbq hqlen hone hq65 HQ hq hB g3 hl3 hk64
        go_wp2_with fail
        refine held_begin (S := fun W => ∃ s, W = ff s) (by kernel_rfl) 8 rfl ?_; rw [hwD'.out]; refine held_take [0, 1, 2, 3] 4 (by kernel_rfl) (fun d _ _ _ _ h => by cases d <;> exact h) (by kernel_rfl) (by kernel_rfl) (by kernel_rfl) HS.out ?_; simp only [pickL, List.map_cons, List.map_nil, List.getD_cons_succ, List.getD_cons_zero]
        iterate 4 (go_big_quiet_step (fail))
        refine wpQuiet_nil ?_; refine held_one 4 3 (by kernel_rfl) (by kernel_rfl) ?_; simp only [pickL, List.map_cons, List.map_nil, List.getD_cons_succ, List.getD_cons_zero]
        go_wp2_with (refine wpList_load_at rfl 129 (.tmp 6) rfl w2.heap.size 0 rfl (ints .i64 tt) T hT'.out _ g3'.out Try.underlying129 rfl 64 infoA hl3'.out ?_)
        first | refine Mid.mk ⟨HS.out, ?_⟩ | refine Mid.mk ?_
        refine held_one 5 2 (by kernel_rfl) (by kernel_rfl) ?_; simp only [pickL, List.map_cons, List.map_nil, List.getD_cons_succ, List.getD_cons_zero]
        go_wp2_with fail
        refine HF'.out.mono ?_; rintro e w5 ⟨rfl, hb5⟩; have k2 := d2'.out.late hb5; have k3 := d3'.out.trans (hb5.mono (Nat.le_trans (Nat.le_of_lt hsz2) d3'.out.size)); have f05 : w5.cell? ⟨bb, o, none⟩ = some (.int .u8 z0) := (k3.cell (p := ⟨bb, o, none⟩) hbw).trans (by rw [← hz00'.out]; exact hf0'.out); have HS5 := Lib.hid (hsurj'.out _ f05); clear hb5; have bq : Blk (w5.setRow w.heap.size B) w.heap.size 172 B := setRow_heap _ _ _ _ _ _ k2; have k4 := rowBelow k3 (Nat.le_refl w.heap.size) B; have f06 : (w5.setRow w.heap.size B).cell? ⟨bb, o, none⟩ = some (.int .u8 z0) := (k4.cell (p := ⟨bb, o, none⟩) hbw).trans (by rw [← hz00'.out]; exact hf0'.out); have HS6 := Lib.hid (hsurj'.out _ f06); clear f05 f06 q0 hne; have k2' := Lib.hid k2; have k3' := Lib.hid k3; have bq' := Lib.hid bq; have k4' := Lib.hid k4; clear k2 k3 bq k4
        go_wp2_with fail
        first | refine Mid.mk ⟨HS5.out, ?_⟩ | refine Mid.mk ?_
        refine held_one 6 1 (by kernel_rfl) (by kernel_rfl) ?_; simp only [pickL, List.map_cons, List.map_nil, List.getD_cons_succ, List.getD_cons_zero]
        go_wp2_with (refine wpList_built2 rfl 172 #[(0, .tmp 33), (1, .tmp 35)] rfl [(0, .int .i64 z0), (1, .agg Z)] B (by simp [Act.eval]) hbq'.out ?_)
        first | refine Mid.mk ⟨HS5.out, ?_⟩ | refine Mid.mk ?_
        refine held_one 7 0 (by kernel_rfl) (by kernel_rfl) ?_; simp only [pickL, List.map_cons, List.map_nil, List.getD_cons_succ, List.getD_cons_zero]
        go_wp2_with (refine wpList_store_row rfl 172 (.tmp 2) (.tmp 36) rfl w.heap.size B rfl rfl 172 _ k2'.out (by rw [hq65'.out]; exact infoQ) (by rw [hq65'.out]; exact zeroQ) hone'.out ?_)
        first | refine Mid.mk ⟨HS6.out, ?_⟩ | refine Mid.mk ?_
        refine held_last (by kernel_rfl) ?_; obtain ⟨w6, hw6⟩ : ∃ w6, w5.setRow w.heap.size B = w6 := ⟨_, rfl⟩; have bq6 := bq'.out; have k46 := k4'.out; rw [hw6] at bq6 k46 ⊢; clear hw6 HS HS5 HS6 bq' k4' k2' k3'; have qb6 : QB w6 w.heap.size q := ⟨by rw [← hq'.out]; exact hqlen'.out, hB'.out ▸ bq6⟩; have hq1 : q.1 = z0 := by rw [← hq'.out]
        have hq2 : q.2 = frZ tt := by rw [← hq'.out]
        have c0 := qb6.c0; have cs6 := qb6.cs; rw [hq1] at c0; rw [hq2] at cs6; have hal7 := (Below.refl w6.heap.size w6).alloc (Nat.le_refl _) (.cells #[.int .i64 z0] 3); have HB7 := below_any 4 _ 1 1 [z0] (w6.alloc (.cells #[.int .i64 z0] 3)) (Sl.new w6 3 1 1 #[.int .i64 z0] (0, 0) (by omega) rfl); rw [below_one] at HB7
        have hqok : qOk q = (decide (0 ≤ z0 ∧ z0 < 4) && within (frZ tt) 1 255) := by
          unfold qOk; rw [hq1, hq2]
          congr 1
          exact decide_eq_decide.2 (by omega)
        obtain ⟨r1, hr1⟩ : ∃ r, decide (0 ≤ z0 ∧ z0 < 4) = r := ⟨_, rfl⟩; obtain ⟨r2, hr2⟩ : ∃ r, within (frZ tt) 1 255 = r := ⟨_, rfl⟩; rw [hr1] at HB7 hqok; rw [hr2] at hqok; have htq2 := htq'.out; rw [hq'.out, hqok] at htq2; have k47 := k46.trans (hal7.mono (Nat.le_trans (Nat.le_of_lt hsz2) k46.size)); have qb7 := qb6.late hal7; have HQ7 := HQ'.out; rw [hr2] at HQ7; have hz65 := zeroQ; clear hal7 bq6 cs6; have qb6' := Lib.hid qb6; have k46' := Lib.hid k46; have hq1' := Lib.hid hq1; have hq2' := Lib.hid hq2; have HB7' := Lib.hid HB7; have hqok' := Lib.hid hqok; have hr1' := Lib.hid hr1; have hr2' := Lib.hid hr2; have htq2' := Lib.hid htq2; have k47' := Lib.hid k47; have qb7' := Lib.hid qb7; have HQ7' := Lib.hid HQ7; have hz65' := Lib.hid hz65; clear qb6 k46 hq1 hq2 HB7 hqok hr1 hr2 htq2 k47 qb7 HQ7 hz65
        go_wp2_with fail
        refine HB7'.out.mono ?_; rintro e w8 ⟨rfl, hb8⟩; have k48 := k47'.out.trans (hb8.mono (Nat.le_trans (Nat.le_of_lt hsz2) k47'.out.size)); have qb8 := qb7'.out.late hb8; clear hb8 c0
        cases r1 with
        | false =>
          have ht2 : t = (2, (0, []), 0) := htq2'.out; have hbt9 : But rb w (w8.setRow w.heap.size Try.zeroCells172) := but_of_set hbt2'.out (rowBelow k48 (Nat.le_refl _) _); have hB9 : Blk w8 w.heap.size 172 B := hB'.out ▸ qb8.blk; have bz : Blk (w8.setRow w.heap.size Try.zeroCells172) w.heap.size 172 Try.zeroCells172 := setRow_heap _ _ _ _ _ _ hB9; have k48' := Lib.hid k48; have qb8' := Lib.hid qb8; have ht2' := Lib.hid ht2; have hbt9' := Lib.hid hbt9; have bz' := Lib.hid bz; have hB9' := Lib.hid hB9; clear k48 qb8 ht2 hbt9 bz hB9
          go_wp2_with (first
            | (refine wpList_built rfl 172 _ rfl Try.zeroCells172 builtQ0 ?_)
            | (refine wpList_store_row rfl 172 (.tmp 2) (.tmp 48) rfl w.heap.size Try.zeroCells172 rfl rfl 172 _ hB9'.out (by rw [hz65'.out]; exact infoQ) (by rw [hz65'.out, hq65'.out]) zeroQ_one ?_))
          refine bodyPost_ret (results_blk_tmp rfl _ _ w.heap.size 172 Try.zeroCells172 _ rfl bz'.out Try.underlying172 rfl (by rw [hz65'.out]; exact infoQ)) rfl ?_; exact ⟨_, by rw [ht2'.out]; rfl, hz65'.out, zeroQ_one, hbt9'.out, fun h => by rw [ht2'.out] at h; cases h⟩
        | true =>
          have cs8 := qb8.cs; rw [hq2'.out] at cs8; have k48' := Lib.hid k48; have qb8' := Lib.hid qb8; have cs8' := Lib.hid cs8; clear k48 qb8 cs8; have hl64 : (ints .i64 (frZ tt)).length = 64 := by rw [ints_len]; exact frZ_len tt
          have hl64' := Lib.hid hl64; clear hl64
          go_wp2_with (refine wpList_load_atW rfl 129 (.tmp 43) rfl w.heap.size 1 rfl (ints .i64 (frZ tt)) Z hZ'.out _ cs8'.out Try.underlying129 rfl 64 infoB64 hl64'.out ?_)
          refine (HQ7'.out _).mono ?_; rintro e w9 ⟨rfl, hb9⟩; have k49 := k48'.out.trans (hb9.mono (Nat.le_trans (Nat.le_of_lt hsz2) k48'.out.size)); have qb9 := qb8'.out.late hb9; clear hb9
          cases r2 with
          | false =>
            have ht2 : t = (2, (0, []), 0) := htq2'.out; have hbt9 : But rb w (w9.setRow w.heap.size Try.zeroCells172) := but_of_set hbt2'.out (rowBelow k49 (Nat.le_refl _) _); have hB9 : Blk w9 w.heap.size 172 B := hB'.out ▸ qb9.blk; have bz : Blk (w9.setRow w.heap.size Try.zeroCells172) w.heap.size 172 Try.zeroCells172 := setRow_heap _ _ _ _ _ _ hB9; have k49' := Lib.hid k49; have qb9' := Lib.hid qb9; have ht2' := Lib.hid ht2; have hbt9' := Lib.hid hbt9; have bz' := Lib.hid bz; have hB9' := Lib.hid hB9; clear k49 qb9 ht2 hbt9 bz hB9
            go_wp2_with (first
              | (refine wpList_built rfl 172 _ rfl Try.zeroCells172 builtQ0 ?_)
              | (refine wpList_store_row rfl 172 (.tmp 2) (.tmp 48) rfl w.heap.size Try.zeroCells172 rfl rfl 172 _ hB9'.out (by rw [hz65'.out]; exact infoQ) (by rw [hz65'.out, hq65'.out]) zeroQ_one ?_))
            refine bodyPost_ret (results_blk_tmp rfl _ _ w.heap.size 172 Try.zeroCells172 _ rfl bz'.out Try.underlying172 rfl (by rw [hz65'.out]; exact infoQ)) rfl ?_; exact ⟨_, by rw [ht2'.out]; rfl, hz65'.out, zeroQ_one, hbt9'.out, fun h => by rw [ht2'.out] at h; cases h⟩
          | true =>
            have ht2 : t = (0, q, 65) := htq2'.out; have hbt9 : But rb w (w9.setRow w.heap.size B) := but_of_set hbt2'.out (rowBelow k49 (Nat.le_refl _) B); have hB9 : Blk w9 w.heap.size 172 B := hB'.out ▸ qb9.blk; have bz : Blk (w9.setRow w.heap.size B) w.heap.size 172 B := setRow_heap _ _ _ _ _ _ hB9; have hcl : (qC q).length = 65 := qC_len qb9.len; have cs9 : ∀ j v, (qC q)[j]? = some v → w9.cell? ⟨w.heap.size, 0 + j, none⟩ = some v := fun j v hv => qb9.blk.cell (by rw [List.getElem?_toArray, Nat.zero_add]; exact hv); have rfin := r1'.out.monoB l2 hrb (rowBelow k49 (Nat.le_refl _) B); have k49' := Lib.hid k49; have qb9' := Lib.hid qb9; have ht2' := Lib.hid ht2; have hbt9' := Lib.hid hbt9; have bz' := Lib.hid bz; have hcl' := Lib.hid hcl; have cs9' := Lib.hid cs9; have rfin' := Lib.hid rfin; have hB9' := Lib.hid hB9; clear k49 qb9 ht2 hbt9 bz hcl cs9 rfin hB9
            go_wp2_with (first
              | (refine wpList_load_at rfl 172 (.tmp 2) rfl w.heap.size 0 rfl (qC q) B hB'.out _ cs9'.out Try.underlying172 rfl 65 infoQ hcl'.out ?_)
              | (refine wpList_store_row rfl 172 (.tmp 2) (.tmp 49) rfl w.heap.size B rfl rfl 172 _ hB9'.out (by rw [hq65'.out]; exact infoQ) rfl hone'.out ?_))
            refine bodyPost_ret (results_blk_tmp rfl _ _ w.heap.size 172 B _ rfl bz'.out Try.underlying172 rfl (by rw [hq65'.out]; exact infoQ)) rfl ?_; refine ⟨B, by rw [ht2'.out]; rfl, hq65'.out, hone'.out, hbt9'.out, fun _ => ?_⟩; rw [ht2'.out]; exact ⟨hB'.out.symm, hkn, a2, c2, rfin'.out, i2'.out⟩
  · have HT := take_no rb a n c z 65 W1 h1 (by omega) (by omega)
    have ht3 : t = (3, (0, []), 0) := by rw [← ht]; unfold takeQ; rw [if_pos (by omega)]
    have hbt : But rb w (W1.setRow w.heap.size Try.zeroCells172) := rowBut (But.of_below hb1) (Nat.le_refl _) _; have hz65 := zeroQ; have bz : Blk (W1.setRow w.heap.size Try.zeroCells172) w.heap.size 172 Try.zeroCells172 := setRow_heap _ _ _ _ _ _ b1; clear h; have HT' := Lib.hid HT; have h1' := Lib.hid h1; have hb1' := Lib.hid hb1; have b1' := Lib.hid b1; have hW1' := Lib.hid hW1; have ht' := Lib.hid ht; have hz' := Lib.hid hz; have hzl' := Lib.hid hzl; have ht3' := Lib.hid ht3; have hbt' := Lib.hid hbt; have bz' := Lib.hid bz; have hz65' := Lib.hid hz65; clear HT h1 hb1 b1 hW1 ht hz hzl ht3 hbt bz hz65
    go_enter Try.func126, Try.ntmps126
    go_wp2_with fail
    rw [hW1'.out]; refine HT'.out.mono ?_; rintro e w2 ⟨rfl, rfl⟩
    go_wp2_with (first
      | (refine wpList_built rfl 172 _ rfl Try.zeroCells172 builtQ0 ?_)
      | (refine wpList_store_row rfl 172 (.tmp 2) (.tmp 16) rfl w.heap.size Try.zeroCells172 rfl rfl 172 _ b1'.out (by rw [hz65'.out]; exact infoQ) rfl zeroQ_one ?_))
    refine bodyPost_ret (results_blk_tmp rfl _ _ w.heap.size 172 Try.zeroCells172 _ rfl bz'.out Try.underlying172 rfl (by rw [hz65'.out]; exact infoQ)) rfl ?_; exact ⟨_, by rw [ht3'.out]; rfl, hz65'.out, zeroQ_one, hbt'.out, fun h => by rw [ht3'.out] at h; cases h⟩
end Go.Proofs.Ytpjopeojeglogaa
