/- Chapter 14: planes of a scan, a scan's head: the program. -/
import Derived.Test.YtpjopeojeglogaaCd19
namespace Go.Proofs.Ytpjopeojeglogaa
open Go.RowKit Tt
set_option linter.unusedVariables false
set_option linter.unusedSimpArgs false

def useL (u : Use3) : List Int := [u.1, u.2.1, u.2.2]
theorem useL_len (u : Use3) : (useL u).length = 3 := rfl
/-- rows of structs of ints -/
structure StR {α : Type} (f : α → List Int) (z : Nat) (w : World) (a : Option Addr) (n c : Nat) (l : List α) : Prop where
  sl : Sl w a n c z (ints .i64 ((l.map f).flatten))
  len : l.length = n
theorem StR.mono {α : Type} {f : α → List Int} {z : Nat} {w w' : World} {a : Option Addr} {n c : Nat} {l : List α} (h : StR f z w a n c l) (hb : Below w.heap.size w w') : StR f z w' a n c l := ⟨h.sl.mono hb, h.len⟩
theorem ints_flat {α : Type} (f : α → List Int) (l : List α) : ints .i64 ((l.map f).flatten) = ((l.map fun x => ints .i64 (f x)).flatten) := by
  unfold ints; rw [List.map_flatten, List.map_map]
  rfl
theorem StR.elem {α : Type} {f : α → List Int} {z : Nat} (hf : ∀ x, (f x).length = z) {w : World} {a : Option Addr} {n c : Nat} {l : List α} (h : StR f z w a n c l) {k : Nat} {x : α} (hx : l[k]? = some x) :
    ∃ b o, a = some ⟨b, o, none⟩ ∧ b < w.heap.size ∧ ∀ j v, (f x)[j]? = some v → w.cell? ⟨b, o + k * z + j, none⟩ = some (.int .i64 v) := by
  have hk : k < n := by rw [← h.len]; exact (List.getElem?_eq_some_iff.1 hx).1
  obtain ⟨b, o, e, hb, _, hc⟩ := h.sl.elem hk; rw [ints_flat, flat_elem (fun x => ints .i64 (f x)) z l (fun x _ => by rw [ints_len]; exact hf x) k x hx] at hc; refine ⟨b, o, e, hb, fun j v hv => hc j _ ?_⟩; unfold ints; rw [List.getElem?_map, hv]
  rfl
theorem belowS_two (e x y : Int) : belowS e [x, y] = (decide (0 ≤ x ∧ x < e) && decide (0 ≤ y ∧ y < e)) := by unfold belowS; simp
theorem usesOk_no {l : List Use3} {k : Nat} {x : Use3} (h : l[k]? = some x) (hx : useOk x = false) : usesOk l = false := by
  unfold usesOk; rw [List.all_eq_false.2 ⟨x, List.mem_of_getElem? h, by rw [hx]; simp⟩]
  rfl
theorem all_of_get {α : Type} {p : α → Bool} {l : List α} (h : ∀ (k : Nat) (x : α), l[k]? = some x → p x = true) : l.all p = true := List.all_eq_true.2 fun x hx => by
  obtain ⟨k, hk, rfl⟩ := List.mem_iff_getElem.1 hx; exact h k _ (List.getElem?_eq_getElem hk)
theorem map_take_snoc {α β : Type} {f : α → β} {l : List α} {k : Nat} {x : α} (h : l[k]? = some x) : (l.take (k + 1)).map f = (l.take k).map f ++ [f x] := by
  rw [List.take_add_one, h]
  simp
set_option maxRecDepth 20000 in
set_option maxHeartbeats 2000000 in
theorem uses_any (a : Option Addr) (n c : Nat) (l : List Use3) (w : World) (hs : StR useL 3 w a n c l) (hn : n ≤ 100000) :
    Calls Try.prog 123 #[.slice a n c] w fun e w' => e = .returned (.bool (usesOk l)) ∧ Below w.heap.size w w' := by
  obtain ⟨i0, hi, hz0, hz1, hz2⟩ := info_parts infoI; have hl := hs.len; obtain ⟨R, hR⟩ : ∃ R, usesOk l = R := ⟨_, rfl⟩; rw [hR]; have hs' := Lib.hid hs; have hl' := Lib.hid hl; have hR' := Lib.hid hR; clear hs hl hR
  go_enter Try.func123, Try.ntmps123
  go_wp2
  go_loopw [3, 5, 8] (fun bv _ iv wr => ∃ (k : Nat) (a3 : Option Addr) (c3 : Nat), k ≤ n ∧ iv = .int .i64 k ∧ bv = .slice a3 k c3 ∧ Hid (∀ (j : Nat) (x : Use3), j < k → l[j]? = some x → useOk x = true) ∧ Hid (wr.ownsRow w.heap.size 3 1 (.slice a3 k c3) k (ints .i64 ((l.take k).map (·.1)))) ∧ Hid (Below w.heap.size w wr)) (fun _ _ iv _ => n - (intOf iv).toNat)
  case atStart => exact ⟨0, none, 0, by omega, rfl, rfl, Lib.hid (fun j x h => by omega), Lib.hid (own_nil _ _ _ _), Lib.hid (Below.refl _ _)⟩
  case round =>
    obtain ⟨k, a3, c3, hk, rfl, rfl, hall, Ob, hbel⟩ := hrel
    by_cases hlt : k < n
    · obtain ⟨x, hx⟩ : ∃ x, l[k]? = some x := ⟨_, List.getElem?_eq_getElem (by rw [hl'.out]; exact hlt)⟩
      obtain ⟨bb, o, rfl, hbb, f⟩ := (hs'.out.mono hbel.out).elem useL_len hx; have hsn := map_take_snoc (f := fun u : Use3 => u.1) hx
      have hok : useOk x = (decide (0 ≤ x.2.1 ∧ x.2.1 < 4) && decide (0 ≤ x.2.2 ∧ x.2.2 < 4)) := by
        unfold useOk; rw [← Bool.decide_and]; exact decide_eq_decide.2 (by omega)
      obtain ⟨x0, x1, x2⟩ := x; have f0 : wr.cell? ⟨bb, o + k * 3, none⟩ = some (.int .i64 x0) := f 0 _ rfl; have f1 : wr.cell? ⟨bb, o + k * 3 + 1, none⟩ = some (.int .i64 x1) := f 1 _ rfl; have f2 : wr.cell? ⟨bb, o + k * 3 + 2, none⟩ = some (.int .i64 x2) := f 2 _ rfl; obtain ⟨W2, hW2, bA, bB, hb2, s2⟩ := two_boxes wr 169 #[.int .i64 x0, .int .i64 x1, .int .i64 x2] 3 #[.int .i64 x1, .int .i64 x2]; have HB := below_any 4 (some ⟨wr.heap.size + 1, 0, none⟩) 2 2 [x1, x2] W2 ⟨by rfl, Nat.le_refl _, by omega, fun i hi => ⟨wr.heap.size + 1, 0, rfl, bB.lt, fun j v hj => bB.cell (by rw [Nat.zero_add]; simpa [ints] using hj)⟩, fun h => by cases h⟩; rw [belowS_two] at HB; simp only at hok hsn; rw [← hok] at HB; obtain ⟨r, hr⟩ : ∃ r, useOk (x0, x1, x2) = r := ⟨_, rfl⟩; rw [hr] at HB; have hbw2 := hbel.out.trans (hb2.mono hbel.out.size); have Ob2 := own_later Ob.out hb2; clear f hok; have hx' := Lib.hid hx; have hsn' := Lib.hid hsn; have HB' := Lib.hid HB; have hb2' := Lib.hid hb2; have s2' := Lib.hid s2; have hW2' := Lib.hid hW2; have bA' := Lib.hid bA; have bB' := Lib.hid bB; have hr' := Lib.hid hr; have hbw2' := Lib.hid hbw2; have Ob2' := Lib.hid Ob2; clear hx hsn HB hb2 s2 hW2 bA bB hr hbw2 Ob2
      go_wp2_with fail
      rw [hW2'.out]; refine HB'.out.mono ?_; rintro e w3 ⟨rfl, hb3⟩; have hbw3 := hbw2'.out.trans (hb3.mono hbw2'.out.size); have Ob3 := own_later Ob2'.out hb3; have bA3 := bA'.out.late hb3; clear hb3
      cases r with
      | false =>
        obtain rfl : R = false := by rw [← hR'.out]; exact usesOk_no hx'.out hr'.out
        have hbw3' := Lib.hid hbw3; have Ob3' := Lib.hid Ob3; have bA3' := Lib.hid bA3; clear hbw3 Ob3 bA3
        go_wp2
        go_ret
        exact ⟨rfl, hbw3'.out⟩
      | true =>
        have hall2 : ∀ (j : Nat) (x : Use3), j < k + 1 → l[j]? = some x → useOk x = true := fun j x hj hxx => by
          rcases Nat.lt_or_ge j k with h | h
          · exact hall.out j x h hxx
          · obtain rfl : j = k := by omega
            rw [hx'.out] at hxx; injection hxx with hxx; rw [← hxx]; exact hr'.out
        have g0 : w3.cell? ⟨wr.heap.size, 0, none⟩ = some (.int .i64 x0) := bA3.cell rfl; have hsz3 := hbw3.size; have hbw3' := Lib.hid hbw3; have Ob3' := Lib.hid Ob3; have bA3' := Lib.hid bA3; have hall2' := Lib.hid hall2; have hsz3' := Lib.hid hsz3; clear hbw3 Ob3 bA3 hall2 hsz3
        go_wp2_with (at_builtin; refine wpList_app rfl _ _ 35 rfl w.heap.size 3 i0 _ 1 8 Try.underlying35 hi hz0 hz1 hz2 rfl (by decide) _ k _ rfl (World.ownsRow.alloc Ob3'.out _) _ 1 1 _ rfl (Sl.new w3 3 1 1 #[.int .i64 x0] (0, 0) (by omega) rfl) (by simp [Value.oneCell']) (by omega) (by decide) (by have := hsz3'.out; simp; omega) ?_; intro a6 c6 w6 ob6 hb6 hg6; have Ob6 := Lib.hid ob6; have Hb6 := Lib.hid ((hbw3'.out.alloc hsz3'.out (.cells #[.int .i64 x0] 3)).trans hb6); clear ob6 hb6 hg6)
        go_roundw
        case rel => exact ⟨k + 1, a6, c6, by omega, by go_num, rfl, hall2', Lib.hid (by rw [hsn'.out, ints_append]; exact Ob6.out), Hb6⟩
        case measure => simp [intOf]; omega
    · have hkn : k = n := by omega
      have Ob2 := Ob.out; have hl2 : (l.take k).map (·.1) = l.map (·.1) := by rw [List.take_of_length_le (by rw [hl'.out]; omega)]
      rw [hl2] at Ob2; have HU := unlike_any a3 k c3 (l.map (·.1)) wr (Sl.of_own Ob2).1 (by omega)
      have hRU : R = idOk (l.map (·.1)) := by
        rw [← hR'.out]; unfold usesOk; rw [all_of_get (fun j x hx => hall.out j x (by rw [hkn, ← hl'.out]; exact (List.getElem?_eq_some_iff.1 hx).1) hx)]
        rfl
      rw [← hRU] at HU; clear hRU hl2; have Ob2' := Lib.hid Ob2; have HU' := Lib.hid HU; have hkn' := Lib.hid hkn; clear Ob2 HU hkn
      go_wp2_with fail
      refine HU'.out.mono ?_; rintro e w3 ⟨rfl, hb3⟩; have hbw3 := hbel.out.trans (hb3.mono hbel.out.size); clear hb3; have hbw3' := Lib.hid hbw3; clear hbw3
      go_wp2
      go_ret
      exact ⟨rfl, hbw3'.out⟩
def headF (u : Use3) : List Int := [u.1, 16 * u.2.1 + u.2.2]
set_option maxRecDepth 20000 in
set_option maxHeartbeats 2000000 in
theorem head_any (a : Option Addr) (n c : Nat) (l : List Use3) (w : World) (hs : StR useL 3 w a n c l) (hn : n ≤ 100000) :
    Calls Try.prog 42 #[.slice a n c] w (PayR w (if usesOk l = true then some (headW l) else none)) := by
  obtain ⟨i0, hi, hz0, hz1, hz2⟩ := info_parts info8; have hl := hs.len; have HU := uses_any a n c l w hs hn; obtain ⟨r, hr⟩ : ∃ r, usesOk l = r := ⟨_, rfl⟩; rw [hr] at HU ⊢
  cases r with
  | false =>
    clear hs; have HU' := Lib.hid HU; have hr' := Lib.hid hr; have hl' := Lib.hid hl; clear HU hr hl
    go_enter Try.func42, Try.ntmps42
    go_wp2_with fail
    refine HU'.out.mono ?_; rintro e w2 ⟨rfl, hb2⟩; have hb2' := Lib.hid hb2; clear hb2
    go_wp2
    go_ret2
    exact ⟨hb2'.out, rfl⟩
  | true =>
    rw [if_pos rfl]; obtain ⟨h1, h2, h3⟩ := usesOk_parts hr; rw [hl] at h2 h3
    have hid : ∀ (j : Nat) (x : Use3), l[j]? = some x → 0 ≤ x.1 ∧ x.1 ≤ 255 ∧ 0 ≤ x.2.1 ∧ x.2.1 ≤ 3 ∧ 0 ≤ x.2.2 ∧ x.2.2 ≤ 3 := fun j x hx => by
      have hm := List.mem_of_getElem? hx; have q1 := List.all_eq_true.1 h1 x hm; unfold useOk at q1; rw [decide_eq_true_eq] at q1
      have q2 : (List.range (l.map (·.1)).length).all (symOk (l.map (·.1))) = true := by
        unfold usesOk idOk at hr; simp only [Bool.and_eq_true] at hr; exact hr.2.1
      have q3 := ((sym_all _).1 q2).1; unfold belowS at q3; have q4 := List.all_eq_true.1 q3 x.1 (List.mem_map_of_mem hm); rw [decide_eq_true_eq] at q4
      omega
    obtain ⟨R, hR⟩ : ∃ R, headW l = R := ⟨_, rfl⟩; rw [hR]; clear h1 hr; have HU' := Lib.hid HU; have hl' := Lib.hid hl; have hs' := Lib.hid hs; have hid' := Lib.hid hid; have hR' := Lib.hid hR; clear HU hl hs hid hR
    go_enter Try.func42, Try.ntmps42
    go_wp2_with fail
    refine HU'.out.mono ?_; rintro e w2 ⟨rfl, hb2⟩; have hn256 : (n : Int) % 256 = n := by omega
    have o2 : (w2.alloc (.cells #[.int .u8 (n : Int)] 5)).ownsRow w.heap.size 5 1 (.slice (some ⟨w2.heap.size, 0, none⟩) 1 1) 1 (ints .u8 [(n : Int)]) := own_new w2 w.heap.size 5 1 1 #[.int .u8 (n : Int)] hb2.size (by unfold maxLen; omega) rfl; have hal := hb2.alloc hb2.size (.cells #[.int .u8 (n : Int)] 5); obtain ⟨w3, hw3⟩ : ∃ w3, w2.alloc (.cells #[.int .u8 (n : Int)] 5) = w3 := ⟨_, rfl⟩; rw [hw3] at o2 hal; have hb2' := Lib.hid hb2; have o2' := Lib.hid o2; have hal' := Lib.hid hal; have hw3' := Lib.hid hw3; clear hb2 o2 hal hw3
    go_upto_region 4 with fail
    try rw [hw3'.out]
    clear hn256
    go_wp2
    go_loopw [4, 6, 16] (fun bv _ iv wr => ∃ (k m : Nat) (a3 : Option Addr) (c3 : Nat), k ≤ n ∧ m ≤ 1 + 2 * k ∧ iv = .int .i64 k ∧ bv = .slice a3 m c3 ∧ Hid (wr.ownsRow w.heap.size 5 1 (.slice a3 m c3) m (ints .u8 ((n : Int) :: flatW headF l k))) ∧ Hid (Below w.heap.size w wr)) (fun _ _ iv _ => n - (intOf iv).toNat)
    case atStart => exact ⟨0, 1, _, 1, by omega, by omega, rfl, rfl, o2', hal'⟩
    case round =>
      obtain ⟨k, m, a3, c3, hk, hm, rfl, rfl, Ob, hbel⟩ := hrel
      by_cases hlt : k < n
      · obtain ⟨x, hx⟩ : ∃ x, l[k]? = some x := ⟨_, List.getElem?_eq_getElem (by rw [hl'.out]; exact hlt)⟩
        obtain ⟨bb, o, rfl, hbb, f⟩ := (hs'.out.mono hbel.out).elem useL_len hx; have hsn := flatW_snoc (f := headF) hx; have hxx := hid'.out k x hx; obtain ⟨x0, x1, x2⟩ := x; obtain ⟨p1, p2, p3, p4, p5, p6⟩ := hxx; simp only at p1 p2 p3 p4 p5 p6; have f0 : wr.cell? ⟨bb, o + k * 3, none⟩ = some (.int .i64 x0) := f 0 _ rfl; have f1 : wr.cell? ⟨bb, o + k * 3 + 1, none⟩ = some (.int .i64 x1) := f 1 _ rfl; have f2 : wr.cell? ⟨bb, o + k * 3 + 2, none⟩ = some (.int .i64 x2) := f 2 _ rfl; have hor := or16 p3 (by omega) p5 (by omega); have hal2 := (Below.refl wr.heap.size wr).alloc (Nat.le_refl _) (.cells #[.int .i64 x0, .int .i64 x1, .int .i64 x2] 169); have Ob2 := own_later Ob.out hal2; have hb2w := hbel.out.trans (hal2.mono hbel.out.size); obtain ⟨W2, hW2⟩ : ∃ W2, wr.alloc (.cells #[.int .i64 x0, .int .i64 x1, .int .i64 x2] 169) = W2 := ⟨_, rfl⟩; have bA := Blk.new wr 169 #[.int .i64 x0, .int .i64 x1, .int .i64 x2]; rw [hW2] at Ob2 hb2w bA; have g0 : W2.cell? ⟨wr.heap.size, 0, none⟩ = some (.int .i64 x0) := bA.cell rfl; have g1 : W2.cell? ⟨wr.heap.size, 1, none⟩ = some (.int .i64 x1) := bA.cell rfl; have g2 : W2.cell? ⟨wr.heap.size, 2, none⟩ = some (.int .i64 x2) := bA.cell rfl; have hsz3 := hb2w.size; clear f hal2; have hx' := Lib.hid hx; have hsn' := Lib.hid hsn; have Ob2' := Lib.hid Ob2; have hb2w' := Lib.hid hb2w; have hW2' := Lib.hid hW2; have bA' := Lib.hid bA; have hm' := Lib.hid hm; have hsz3' := Lib.hid hsz3; clear hx hsn Ob2 hb2w hW2 bA hm hsz3; have hmb : m ≤ 100 := by have := hm'.out; omega
        go_upto_region 7 with fail
        rw [hW2'.out]; clear f0 f1 f2
        go_wp2_with (at_builtin; refine wpList_app rfl _ _ 30 rfl w.heap.size 5 i0 _ 1 1 Try.underlying30 hi hz0 hz1 hz2 rfl (by decide) _ m _ rfl (World.ownsRow.alloc Ob2'.out _) _ 2 2 _ rfl (Sl.new W2 5 1 2 #[.int .u8 x0, .int .u8 (16 * x1 + x2)] (0, 0) (by omega) rfl) (by simp [Value.oneCell']) (by omega) (by decide) (by have := hsz3'.out; simp; omega) ?_; intro a6 c6 w6 ob6 hb6 hg6; have Ob6 := Lib.hid ob6; have Hb6 := Lib.hid ((hb2w'.out.alloc hsz3'.out (.cells #[.int .u8 x0, .int .u8 (16 * x1 + x2)] 5)).trans hb6); clear ob6 hb6 hg6)
        clear hor
        go_roundw
        case rel => exact ⟨k + 1, m + 2, a6, c6, by omega, by have := hm'.out; omega, by go_num, rfl, Lib.hid (by rw [hsn'.out, ← List.cons_append, ints_append]; exact Ob6.out), Hb6⟩
        case measure => simp [intOf]; omega
      · have hkn : k = n := by omega
        have Ob2 := Ob.out; rw [hkn] at Ob2
        have hRe : R = (n : Int) :: flatW headF l n ++ [0, 63, 0] := by
          rw [← hR'.out]; unfold headW flatW headF; rw [List.take_of_length_le (by rw [hl'.out]; exact Nat.le_refl _), hl'.out]
        have hsz3 := hbel.out.size; have Ob2' := Lib.hid Ob2; have hkn' := Lib.hid hkn; have hRe' := Lib.hid hRe; have hsz3' := Lib.hid hsz3; clear Ob2 hkn hRe hsz3
        go_wp2_with (at_builtin; refine wpList_app rfl _ _ 30 rfl w.heap.size 5 i0 _ 1 1 Try.underlying30 hi hz0 hz1 hz2 rfl (by decide) _ m _ rfl (World.ownsRow.alloc Ob2'.out _) _ 3 3 _ rfl (Sl.new wr 5 1 3 #[.int .u8 0, .int .u8 63, .int .u8 0] (0, 0) (by omega) rfl) (by simp [Value.oneCell']) (by omega) (by decide) (by have := hsz3'.out; simp; omega) ?_; intro a6 c6 w6 ob6 hb6 hg6; have Ob6 := Lib.hid ob6; have Hb6 := Lib.hid ((hbel.out.alloc hsz3'.out (.cells #[.int .u8 0, .int .u8 63, .int .u8 0] 5)).trans hb6); clear ob6 hb6 hg6)
        go_ret2
        refine ⟨Hb6.out, a6, m + 3, c6, rfl, ?_⟩; rw [hRe'.out, ints_append]; exact Ob6.out
end Go.Proofs.Ytpjopeojeglogaa
