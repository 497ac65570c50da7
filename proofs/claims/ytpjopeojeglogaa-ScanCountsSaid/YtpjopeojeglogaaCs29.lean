/- Chapter 12: rows of numbers that are made and written; the order, place by place (plain). | Chapter 14: equality of equal arrays of numbers, of equal tables; quantisation tables that are the same: the law's own. | Chapter 12: rows and planes of blocks that are the same: the law's row, the document's Same. | Chapter 12: blocks written: the program. -/
import Derived.Test.YtpjopeojeglogaaCs28
import Derived.ChangeKeysEq
import Derived.Laws.StructEq
import Derived.Test.YtpjopeojeglogaaCs08
import Derived.Test.YtpjopeojeglogaaCs17
import Derived.Test.YtpjopeojeglogaaCs26
import Derived.Test.YtpjopeojeglogaaCs23
namespace Go.Proofs.Ytpjopeojeglogaa
open Go.RowKit Tt
set_option linter.unusedVariables false
set_option linter.unusedSimpArgs false

/-- rows that were made since B: where each lies, and its numbers -/
def oiV (x : Nat × List Int) : Value := .slice (some ⟨x.1, 0, none⟩) x.2.length x.2.length
structure OutI (B : Nat) (w : World) (a : Option Addr) (n c : Nat) (L : List (Nat × List Int)) : Prop where
  own : w.ownsRow B 35 1 (.slice a n c) n (L.map oiV)
  blk : ∀ (i : Nat) x, L[i]? = some x → B ≤ x.1 ∧ Blk w x.1 3 (ints .i64 x.2).toArray
  inj : ∀ (i j : Nat) x y, L[i]? = some x → L[j]? = some y → x.1 = y.1 → i = j
section
variable {B : Nat} {w w' : World} {a : Option Addr} {n c : Nat} {L : List (Nat × List Int)}
theorem OutI.late (h : OutI B w a n c L) (hb : Below w.heap.size w w') : OutI B w' a n c L :=
  ⟨own_later h.own hb, fun i x hx => ⟨(h.blk i x hx).1, (h.blk i x hx).2.late hb⟩, h.inj⟩
theorem OutI.len (h : OutI B w a n c L) : L.length = n := by
  have := (Sl.of_own h.own).1.len; rw [List.length_map] at this; omega
theorem OutI.put (h : OutI B w a n c L) {i : Nat} {x : Nat × List Int} (hx : L[i]? = some x) (k : Nat) (v : Int) : OutI B (w.setCell ⟨x.1, k, none⟩ (.int .i64 v)) a n c (L.set i (x.1, x.2.set k v)) := by
  have hil := (List.getElem?_eq_some_iff.1 hx).1; obtain ⟨hB, hbl⟩ := h.blk i x hx; have hbt : But x.1 w (w.setCell ⟨x.1, k, none⟩ (.int .i64 v)) := (But.refl x.1 w).set k _
  have hmap : (L.set i (x.1, x.2.set k v)).map oiV = L.map oiV := by
    refine List.ext_getElem? fun j => ?_; rw [List.getElem?_map, List.getElem?_map]
    by_cases hj : i = j
    · subst hj
      rw [List.getElem?_set_self hil, hx]
      simp [oiV]
    · rw [List.getElem?_set_ne hj]
  refine ⟨by rw [hmap]; exact own_but h.own hbt (own_neB h.own hbl (by decide)), fun j y hy => ?_, fun j1 j2 y1 y2 h1 h2 he => ?_⟩
  · by_cases hj : i = j
    · subst hj
      rw [List.getElem?_set_self hil] at hy; injection hy with hy; subst hy; refine ⟨hB, ?_⟩; have := hbl.set k (.int .i64 v)
      rwa [show (ints .i64 x.2).toArray.setIfInBounds k (.int .i64 v) = (ints .i64 (x.2.set k v)).toArray by unfold ints; rw [List.setIfInBounds_toArray, List.map_set]] at this
    · rw [List.getElem?_set_ne hj] at hy
      obtain ⟨k1, k2⟩ := h.blk j y hy; exact ⟨k1, k2.but hbt (fun e => hj (h.inj i j x y hx hy e.symm))⟩
  · have key : ∀ (j : Nat) y, (L.set i (x.1, x.2.set k v))[j]? = some y → ∃ z, L[j]? = some z ∧ z.1 = y.1 := fun j y hy => by
      by_cases hj : i = j
      · subst hj
        rw [List.getElem?_set_self hil] at hy; injection hy with hy; exact ⟨x, hx, by rw [← hy]⟩
      · rw [List.getElem?_set_ne hj] at hy
        exact ⟨y, hy, rfl⟩
    obtain ⟨z1, a1, b1⟩ := key j1 y1 h1; obtain ⟨z2, a2, b2⟩ := key j2 y2 h2; exact h.inj j1 j2 z1 z2 a1 a2 (by rw [b1, b2, he])
theorem OutI.snoc {a' : Option Addr} {c' : Nat} (h : OutI B w a n c L) {g : Nat} {l : List Int} (hg : B ≤ g) (hb : Blk w g 3 (ints .i64 l).toArray) (hne : ∀ (i : Nat) x, L[i]? = some x → x.1 ≠ g)
    (ho : w'.ownsRow B 35 1 (.slice a' (n + 1) c') (n + 1) (L.map oiV ++ [oiV (g, l)])) (hgr : w.grownBy w' (Value.slice a n c).ownBlock) : OutI B w' a' (n + 1) c' (L ++ [(g, l)]) := by
  have hm := Mo.of_grown (S := fun k => (Value.slice a n c).ownBlock = some k) hgr fun k hk => hk
  have key : ∀ (i : Nat) x, (L ++ [(g, l)])[i]? = some x → (L[i]? = some x) ∨ (i = L.length ∧ x = (g, l)) := fun i x hx => by
    rcases Nat.lt_or_ge i L.length with hi | hi
    · rw [List.getElem?_append_left hi] at hx; exact .inl hx
    · have hi2 := (List.getElem?_eq_some_iff.1 hx).1
      rw [List.length_append, List.length_singleton] at hi2; obtain rfl : i = L.length := by omega
      rw [List.getElem?_concat_length] at hx; injection hx with hx; exact .inr ⟨rfl, hx.symm⟩
  refine ⟨by rw [List.map_append]; exact ho, fun i x hx => ?_, fun i j x y hx hy he => ?_⟩
  · rcases key i x hx with hx | ⟨rfl, rfl⟩
    · obtain ⟨k1, k2⟩ := h.blk i x hx
      exact ⟨k1, k2.mo hm (own_neB h.own k2 (by decide))⟩
    · exact ⟨hg, hb.mo hm (own_neB h.own hb (by decide))⟩
  · rcases key i x hx with hx | ⟨rfl, rfl⟩
    · rcases key j y hy with hy | ⟨rfl, rfl⟩
      · exact h.inj i j x y hx hy he
      · exact absurd he (hne i x hx)
    · rcases key j y hy with hy | ⟨rfl, rfl⟩
      · exact absurd he.symm (hne j y hy)
      · rfl
theorem OutI.cell (h : OutI B w a n c L) {i : Nat} {x : Nat × List Int} (hx : L[i]? = some x) : ∃ g, a = some ⟨g, 0, none⟩ ∧ g < w.heap.size ∧ w.cell? ⟨g, i, none⟩ = some (oiV x) := by
  have hi : i < n := by rw [← h.len]; exact (List.getElem?_eq_some_iff.1 hx).1
  obtain ⟨g, e, _, hg, _, hc⟩ := own_at h.own hi; exact ⟨g, e, hg, hc i (oiV x) (by rw [List.getElem?_map, hx]; rfl)⟩
end
theorem placesI_get : ∀ (U : List (Nat × Nat)) (k : Nat) (y : Nat × Nat), U[k]? = some y → (placesI U)[2 * k]? = some (y.1 : Int) ∧ (placesI U)[2 * k + 1]? = some (y.2 : Int)
  | [], k, y, h => by cases h
  | x :: U, 0, y, h => by
    injection h with h; subst h; exact ⟨rfl, rfl⟩
  | x :: U, k + 1, y, h => by
    have ih := placesI_get U k y h; have e : placesI (x :: U) = (x.1 : Int) :: (x.2 : Int) :: placesI U := rfl; rw [e]; exact ih
theorem placesI_len (U : List (Nat × Nat)) : (placesI U).length = 2 * U.length := by
  induction U with
  | nil => rfl
  | cons x U ih =>
    have e : placesI (x :: U) = (x.1 : Int) :: (x.2 : Int) :: placesI U := rfl; rw [e, List.length_cons, List.length_cons, List.length_cons, ih]; omega
/-- what the law asks of each place of the order -/
theorem order_step {a d U k : Nat} {ps : List PtM} (ha : 1 ≤ a) (hp : ∀ (k : Nat) p, ps[k]? = some p → mayPt p = true) (hU : unitN ps = U) (hk : k < (a * d) * U) :
    ∃ y p, (unitsS a ps (a * d))[k]? = some y ∧ ps[y.1]? = some p ∧ y.2 < a * p.1.toNat * d * p.2.1.toNat ∧ y ∉ (unitsS a ps (a * d)).take k ∧ y.2 / (a * p.1.toNat) / p.2.1.toNat * a + y.2 % (a * p.1.toNat) / p.1.toNat = k / U ∧
      (0 < k % U → ∃ z, (unitsS a ps (a * d))[k - 1]? = some z ∧ z.1 ≤ y.1) := by
  have hpo : PtsOk ps := fun i p hi => by have := mayPt_bd (hp i p hi); omega
  have hU0 : 0 < U := by
    rcases Nat.eq_zero_or_pos U with h | h
    · rw [h, Nat.mul_zero] at hk; omega
    · exact h
  have hkl : k < (unitsS a ps (a * d)).length := by rw [unitsS_len, hU]; exact hk
  obtain ⟨y, hy⟩ : ∃ y, (unitsS a ps (a * d))[k]? = some y := ⟨_, List.getElem?_eq_getElem hkl⟩; have hyu := hy; rw [unitsS_get hU (a * d) hk] at hyu; have hn : k / U < a * d := Nat.div_lt_of_lt_mul (by rw [Nat.mul_comm]; exact hk); have hmem := List.mem_of_getElem? hyu; obtain ⟨p, hpp, hlt⟩ := unit_in ha hp hn hmem; obtain ⟨p2, j, hp2, hj, he⟩ := unit_mem hmem; rw [hpp] at hp2; injection hp2 with hp2; subst hp2; have hpk := hpo _ _ hpp; refine ⟨y, p, hy, hpp, hlt, fun hm => ?_, ?_, fun h0 => ?_⟩
  · obtain ⟨i, hi, e⟩ := List.mem_iff_getElem.1 hm
    rw [List.length_take] at hi; have h1 := List.pairwise_iff_getElem.1 (unitsS_nodup ha hpo (a * d)) i k (by omega) hkl (by omega); rw [List.getElem_take] at e; rw [List.getElem?_eq_getElem hkl] at hy; injection hy with hy; exact h1 (e.trans hy.symm)
  · rw [he]; exact at_unit ha hpk.1 hj
  · have hk1 : k - 1 < a * d * U := by omega
    obtain ⟨z, hz⟩ : ∃ z, (unitsS a ps (a * d))[k - 1]? = some z := ⟨_, List.getElem?_eq_getElem (by omega)⟩; have hzu := hz; rw [unitsS_get hU (a * d) hk1] at hzu; have hdm := Nat.div_add_mod k U; have hml := Nat.mod_lt k hU0
    have e1 : (k - 1) / U = k / U := by
      have : k - 1 = U * (k / U) + (k % U - 1) := by omega
      rw [this, Nat.mul_add_div hU0, Nat.div_eq_of_lt (show k % U - 1 < U by omega), Nat.add_zero]
    have e2 : (k - 1) % U = k % U - 1 := by
      have : k - 1 = U * (k / U) + (k % U - 1) := by omega
      rw [this, Nat.mul_add_mod, Nat.mod_eq_of_lt (show k % U - 1 < U by omega)]
    rw [e1, e2] at hzu; obtain ⟨h1, e3⟩ := List.getElem?_eq_some_iff.1 hzu; obtain ⟨h2, e4⟩ := List.getElem?_eq_some_iff.1 hyu; have := List.pairwise_iff_getElem.1 (unitS_up ha hpo (n := k / U)) (k % U - 1) (k % U) h1 h2 (by omega); rw [e3, e4] at this; exact ⟨z, hz, this.1⟩
end Go.Proofs.Ytpjopeojeglogaa

namespace Go.Proofs.Ytpjopeojeglogaa
open Go.RowKit Tt
set_option linter.unusedVariables false
set_option linter.unusedSimpArgs false

theorem info_int : ∃ i, Try.prog.info? 3 = some i := by
  cases h : Try.prog.info? 3 with
  | none =>
    have : (Try.prog.info? 3).isSome = true := by kernel_rfl
    rw [h] at this
    cases this
  | some i => exact ⟨i, rfl⟩
theorem items_same (d : Nat) (W : World) (l : List Int) (A : Array Value) (hA : (ints .i64 l).toArray = A) : ∀ (is : List Nat), (∀ i ∈ is, i < l.length) → (Op.eqItems (d + 1) 3 1 A A is).run Try.prog W = .ok true W
  | [], _ => by simp [Op.eqItems]
  | i :: is, h => by
    have hi := h i List.mem_cons_self; have hp : (part 3 A i).run Try.prog W = .ok (.int .i64 (l.getD i 0)) W := run_part_plain (P := Try.prog) W (e := 3) (by kernel_rfl) (by rw [← hA, List.getElem?_toArray]; exact ints_get hi); have he := run_equalIn_int (P := Try.prog) W d 3 .i64 _ (l.getD i 0) (l.getD i 0) Try.underlying3; rw [beq_self_eq_true] at he; simp only [Op.eqItems, Sem.run_bind, Nat.mul_one, hp, Result.andThen_ok, he, Bool.not_true, Bool.false_eq_true, if_false]; exact items_same d W l A hA is (fun j hj => h j (List.mem_cons_of_mem _ hj))
theorem eq_arr {T : TypeId} {n : Nat} (d : Nat) (W : World) (l : List Int) (A : Array Value) (hA : (ints .i64 l).toArray = A) (hn : l.length = n) (hu : Try.prog.underlying T = some (.array n 3)) : (Op.equalIn (d + 2) T (.agg A) (.agg A)).run Try.prog W = .ok true W := by
  obtain ⟨i, hi⟩ := info_int; have hc : Try.prog.cellsOf 3 = 1 := by kernel_rfl
  rw [run_equalIn_array (w := W) (d + 1) A A hu hi, hc]; exact items_same d W l A hA (List.range n) (fun i hi => by rw [hn]; exact List.mem_range.1 hi)
theorem neq_arr {T : TypeId} {n : Nat} (W : World) (l : List Int) (A : Array Value) (hA : (ints .i64 l).toArray = A) (hn : l.length = n) (hu : Try.prog.underlying T = some (.array n 3)) : (binOp .neq T (.agg A) (.agg A)).run Try.prog W = .ok (.bool false) W := by
  rw [run_neq_struct, eq_arr 9998 W l A hA hn hu]
  rfl
attribute [-go_sem] run_neq_struct
end Go.Proofs.Ytpjopeojeglogaa

namespace Go.Proofs.Ytpjopeojeglogaa
open Go.RowKit Tt
set_option linter.unusedVariables false
set_option linter.unusedSimpArgs false

set_option maxRecDepth 20000 in
set_option maxHeartbeats 2000000 in
theorem lrow_eq (a b : Option Addr) (n c d : Nat) (l : List Int) (w : World) (ha : Sl w a n c 1 (ints .i64 l)) (hb : Sl w b n d 1 (ints .i64 l)) :
    Calls Try.prog 25 #[.slice a n c, .slice b n d] w fun e w' => e = .returned (.bool true) ∧ Below w.heap.size w w' := by
  have hl := ha.ilen; have hmx := ha.max; have hle := ha.le; have hq0 := Qt.refl w; have hnb : ((n : Int) != n) = false := by simp
  have ha' := Lib.hid ha; have hb' := Lib.hid hb; have hl' := Lib.hid hl; have hq0' := Lib.hid hq0; clear ha hb hl hq0
  go_enter Try.func25, Try.ntmps25
  go_wp2
  go_loopw [5] (fun iv wr => ∃ (k : Nat), k ≤ n ∧ iv = .int .i64 k ∧ Hid (Qt w wr)) (fun iv _ => n - (intOf iv).toNat)
  case atStart => exact ⟨0, by omega, rfl, hq0'⟩
  case round =>
    obtain ⟨k, hk, rfl, hq⟩ := hrel; obtain ⟨dq, rfl⟩ := hq.out.ex
    by_cases hlt : k < n
    · obtain ⟨x, hx⟩ : ∃ x, l[k]? = some x := ⟨_, List.getElem?_eq_getElem (by rw [hl'.out]; exact hlt)⟩
      have hxd : l.getD k 0 = x := by rw [List.getD_eq_getElem?_getD, hx]; rfl
      obtain ⟨ba, oa, rfl, _, fa⟩ := ha'.out.at hlt; obtain ⟨bb, ob, rfl, _, fb⟩ := hb'.out.at hlt; have f0 := fa k _ (ints_get (by rw [hl'.out]; exact hlt)); have f1 := fb k _ (ints_get (by rw [hl'.out]; exact hlt)); rw [hxd] at f0 f1; have hbx : (x != x) = false := by simp
      clear fa fb; have hx' := Lib.hid hx; have hxd' := Lib.hid hxd; clear hx hxd
      go_wp2
      go_quiet (fail)
      go_wp2
      go_roundw
      case rel => exact ⟨k + 1, by omega, by go_num, Lib.hid ⟨_, rfl⟩⟩
      case measure => simp [intOf]; omega
    · go_wp2
      go_ret
      exact ⟨rfl, hq.out.below _⟩
theorem BpOk.row {w : World} {b : BpM} (h : BpOk w b) {k : Nat} {x : List Int} (hx : b.1[k]? = some x) : ∃ g o, b.2.1 = some ⟨g, o, none⟩ ∧ g < w.heap.size ∧ ∀ j v, (ints .i64 x)[j]? = some v → w.cell? ⟨g, o + k * 64 + j, none⟩ = some v := by
  have hk : k < b.2.2.1 := by rw [← h.ilen]; exact (List.getElem?_eq_some_iff.1 hx).1
  obtain ⟨g, o, e, hg, _, hc⟩ := h.sl.elem hk; rw [flat_elem (ints .i64) 64 b.1 (fun z hz => by rw [ints_len]; exact h.len z hz) k x hx] at hc; exact ⟨g, o, e, hg, hc⟩
set_option maxRecDepth 20000 in
set_option maxHeartbeats 2000000 in
theorem rsame12_eq (a b : Option Addr) (n c d : Nat) (l m : List BpM) (w : World) (ha : BpsR w a n c l) (hb : BpsR w b n d m) (hlm : l.map (·.1) = m.map (·.1)) (hmx1 : n ≤ maxLen) :
    Calls Try.prog 23 #[.slice a n c, .slice b n d] w fun e w' => e = .returned (.bool true) ∧ Below w.heap.size w w' := by
  have hl := ha.ilen; have hl2 := hb.ilen; have hmx := ha.sl.max; have hle := ha.sl.le; have hq0 := Below.refl w.heap.size w; have hnb : ((n : Int) != n) = false := by simp
  have ha' := Lib.hid ha; have hb' := Lib.hid hb; have hl' := Lib.hid hl; have hl2' := Lib.hid hl2; have hq0' := Lib.hid hq0; have hlm' := Lib.hid hlm; clear ha hb hl hl2 hq0 hlm
  go_enter Try.func23, Try.ntmps23
  go_wp2
  go_loopw [5, 6] (fun iv _ wr => ∃ (k : Nat), k ≤ n ∧ iv = .int .i64 k ∧ Hid (Below w.heap.size w wr)) (fun iv _ _ => n - (intOf iv).toNat)
  case atStart => exact ⟨0, by omega, rfl, hq0'⟩
  case round =>
    obtain ⟨k, hk, rfl, hq⟩ := hrel
    by_cases hlt : k < n
    · obtain ⟨x, hx⟩ : ∃ x, l[k]? = some x := ⟨_, List.getElem?_eq_getElem (by rw [hl'.out]; exact hlt)⟩
      obtain ⟨y, hy⟩ : ∃ y, m[k]? = some y := ⟨_, List.getElem?_eq_getElem (by rw [hl2'.out]; exact hlt)⟩
      have hxy : x.1 = y.1 := by
        have h1 : (l.map (·.1))[k]? = some x.1 := by rw [List.getElem?_map, hx]; rfl
        rw [hlm'.out, List.getElem?_map, hy] at h1; injection h1 with h1; exact h1.symm
      obtain ⟨ga, oa, rfl, hga, fa⟩ := ha'.out.elem hx; obtain ⟨gb, ob, rfl, hgb, fb⟩ := hb'.out.elem hy; have hxo := ha'.out.ok x (List.mem_of_getElem? hx); have hyo := hb'.out.ok y (List.mem_of_getElem? hy); have hxl := hxo.ilen; have hyl := hyo.ilen; have hxm := hxo.sl.max; have hxe := hxo.sl.le; unfold bpV at fa fb; obtain ⟨xl, ta, tn, tc⟩ := x; obtain ⟨yl, ua, un, uc⟩ := y; simp only at hxy hxl hyl fa fb hxm hxe; subst hxy; obtain rfl : un = tn := by omega
      have hnt : ((un : Int) != un) = false := by simp
      have f0 : ∀ W, Below w.heap.size w W → W.cell? ⟨ga, oa + k, none⟩ = some (.slice ta un tc) := fun W h => (h.cell (p := ⟨ga, oa + k, none⟩) hga).trans fa; have f1 : ∀ W, Below w.heap.size w W → W.cell? ⟨gb, ob + k, none⟩ = some (.slice ua un uc) := fun W h => (h.cell (p := ⟨gb, ob + k, none⟩) hgb).trans fb; have g0 := f0 wr hq.out; have g1 := f1 wr hq.out; clear fa fb; have hx' := Lib.hid hx; have hy' := Lib.hid hy; have hxo' := Lib.hid hxo; have hyo' := Lib.hid hyo; have hxl' := Lib.hid hxl; have f0' := Lib.hid f0; have f1' := Lib.hid f1; clear hx hy hxo hyo hxl f0 f1
      go_wp2
      go_quiet (fail)
      have hq1 := hq.out.trans ((Qt.below ⟨nq, rfl⟩ wr.heap.size).mono hq.out.size); obtain ⟨w1, hw1⟩ : ∃ W, wr.drewN nq = W := ⟨_, rfl⟩; rw [hw1] at hq1 ⊢; clear hw1 g0 g1; have hq1' := Lib.hid hq1; clear hq1
      go_wp2
      go_loopw [6] (fun iv wi => ∃ (j : Nat), j ≤ un ∧ iv = .int .i64 j ∧ Hid (Below w.heap.size w wi)) (fun iv _ => un - (intOf iv).toNat)
      case atStart => exact ⟨0, by omega, rfl, hq1'⟩
      case round =>
        rename World => wi
        obtain ⟨j, hj, rfl, hqi⟩ := hrel; have g0 := f0'.out wi hqi.out
        by_cases hjt : j < un
        · obtain ⟨z, hz⟩ : ∃ z, xl[j]? = some z := ⟨_, List.getElem?_eq_getElem (by have := hxl'.out; omega)⟩
          have hzl := hxo'.out.len z (List.mem_of_getElem? hz); obtain ⟨ca, pa, hta, hca, fa⟩ := hxo'.out.row hz; obtain ⟨cb, pb, hua, hcb, fb⟩ := hyo'.out.row hz; simp only at hta hua; subst hta; subst hua; obtain ⟨B, hB⟩ : ∃ B, (ints .i64 z).toArray = B := ⟨_, rfl⟩; have hzi : (ints .i64 z).length = 64 := by rw [ints_len]; exact hzl
          have hnq := fun W => neq_arr (T := 129) W z B hB hzl Try.underlying129; have hD := hqi.out.drew; obtain ⟨wD, hwD⟩ : ∃ wD, wi.drew = wD := ⟨_, rfl⟩; rw [hwD] at hD; obtain ⟨Ty, ff, hne, qq, hsurj⟩ := pr_worlds (fun W => Below w.heap.size w W) wD hD; have HS := Lib.hid (hsurj _ hD); have y0 : ∀ s, (ff s).cell? ⟨ga, oa + k, none⟩ = some (.slice (some ⟨ca, pa, none⟩) un tc) := fun s => f0'.out _ (qq s); have y1 : ∀ s, (ff s).cell? ⟨gb, ob + k, none⟩ = some (.slice (some ⟨cb, pb, none⟩) un uc) := fun s => f1'.out _ (qq s)
          have fA : ∀ W, (∃ s, W = ff s) → ∀ i v, (ints .i64 z)[i]? = some v → W.cell? ⟨ca, pa + j * 64 + i, none⟩ = some v := fun W h i v hv => by
            obtain ⟨s, rfl⟩ := h; exact ((qq s).cell (p := ⟨ca, pa + j * 64 + i, none⟩) hca).trans (fa i v hv)
          have fB : ∀ W, (∃ s, W = ff s) → ∀ i v, (ints .i64 z)[i]? = some v → W.cell? ⟨cb, pb + j * 64 + i, none⟩ = some v := fun W h i v hv => by
            obtain ⟨s, rfl⟩ := h; exact ((qq s).cell (p := ⟨cb, pb + j * 64 + i, none⟩) hcb).trans (fb i v hv)
          clear fa fb qq hsurj; have hz' := Lib.hid hz; have hzl' := Lib.hid hzl; have hB' := Lib.hid hB; have hzi' := Lib.hid hzi; have hwD' := Lib.hid hwD; have hD' := Lib.hid hD; have fA' := Lib.hid fA; have fB' := Lib.hid fB; clear hz hzl hB hzi hwD hD fA fB
          go_upto_region 11 with fail
          refine held_begin (S := fun W => ∃ s, W = ff s) (by kernel_rfl) 15 rfl ?_; rw [hwD'.out]; refine held_take [0, 1, 2, 3, 4, 5, 6, 7, 8, 9, 10, 11, 12, 13] 1 (by kernel_rfl) (fun d _ _ _ _ h => by cases d <;> exact h) (by kernel_rfl) (by kernel_rfl) (by kernel_rfl) HS.out ?_; simp only [pickL, List.map_cons, List.map_nil, List.getD_cons_succ, List.getD_cons_zero]
          iterate 6 (go_big_quiet_step (fail))
          refine wpQuiet_load_at rfl 129 (.tmp 43) rfl ca (pa + j * 64) rfl (ints .i64 z) B hB'.out _ fA'.out Try.underlying129 rfl 64 infoB64 hzi'.out ?_; simp only [Act.put, List.setIfInBounds_toArray, List.set_cons_succ, List.set_cons_zero]
          iterate 6 (go_big_quiet_step (fail))
          refine wpQuiet_load_at rfl 129 (.tmp 50) rfl cb (pb + j * 64) rfl (ints .i64 z) B hB'.out _ fB'.out Try.underlying129 rfl 64 infoB64 hzi'.out ?_; simp only [Act.put, List.setIfInBounds_toArray, List.set_cons_succ, List.set_cons_zero]; refine wpQuiet_nil ?_; clear y0 y1 g0; refine held_one 14 0 (by kernel_rfl) (by kernel_rfl) ?_; simp only [pickL, List.map_cons, List.map_nil, List.getD_cons_succ, List.getD_cons_zero]
          go_wp2_with fail
          refine Mid.mk ⟨HS.out, ?_⟩; refine held_last (by kernel_rfl) ?_; clear HS
          go_wp2
          go_roundw
          case rel => exact ⟨j + 1, by omega, by go_num, hD'⟩
          case measure => simp [intOf]; omega
        · go_wp2
          go_roundw
          case rel => exact ⟨k + 1, by omega, by go_num, hqi⟩
          case measure => simp [intOf]; omega
    · go_wp2
      go_ret
      exact ⟨rfl, hq.out⟩
end Go.Proofs.Ytpjopeojeglogaa

namespace Go.Proofs.Ytpjopeojeglogaa
open Go.RowKit Tt
set_option linter.unusedVariables false
set_option linter.unusedSimpArgs false

/-- what stands in memory while blocks are written: w1 is the world behind the tables -/
structure WJ (w1 : World) (g2 g6 g7 g8 : Nat) (s : ScT) (pa : Option Addr) (pn pc : Nat) (ta : Option Addr) (tc : Nat) (S : Nat → Prop) (t : WrT) (w : World) : Prop where
  bel : Below w1.heap.size w1 w
  bd : ∀ k, S k → w1.heap.size ≤ k ∧ k < w.heap.size ∧ k ≠ g2 ∧ k ≠ g6
  m7 : S g7
  m8 : S g8
  b2 : Blk w g2 24 #[.int .i64 s.ax, .int .i64 s.dn, .slice pa pn pc, .int .i64 s.iv]
  b6 : Blk w g6 130 #[.slice ta pn tc]
  ex : ∃ ao no co wb Sw, Blk w g7 30 #[.slice ao no co] ∧ w.ownsRow 0 5 1 (.slice ao no co) no (ints .u8 t.1) ∧ (∀ k, (Value.slice ao no co).ownBlock = some k → S k ∧ k ≠ g7 ∧ k ≠ g8) ∧
    Blk w g8 123 #[.pointer (some ⟨wb, 0, none⟩)] ∧ Wl Sw w wb t.2 ∧ ∀ k, Sw k → S k ∧ k ≠ g7 ∧ k ≠ g8 ∧ ¬ (Value.slice ao no co).ownBlock = some k
section
variable {w1 : World} {g2 g6 g7 g8 : Nat} {s : ScT} {pa : Option Addr} {pn pc : Nat} {ta : Option Addr} {tc : Nat}
theorem WJ.late {S : Nat → Prop} {t : WrT} {w w' : World} (h : WJ w1 g2 g6 g7 g8 s pa pn pc ta tc S t w) (hb : Below w.heap.size w w') : WJ w1 g2 g6 g7 g8 s pa pn pc ta tc S t w' := by
  obtain ⟨ao, no, co, wb, Sw, h1, h2, h3, h4, h5, h6⟩ := h.ex; exact ⟨h.bel.trans (hb.mono h.bel.size), fun k hk => by have := h.bd k hk; have := hb.size; omega, h.m7, h.m8, h.b2.late hb, h.b6.late hb, ao, no, co, wb, Sw, h1.late hb, own_later h2 hb, h3, h4.late hb, h5.late hb, h6⟩
theorem WJ.but {S : Nat → Prop} {t : WrT} {w w' : World} {g E : Nat} (h : WJ w1 g2 g6 g7 g8 s pa pn pc ta tc S t w) (hb : But g w w') (hE : E ≤ g) (hg : ¬ S g) (h1E : w1.heap.size ≤ E) (h2E : g2 < E) (h6E : g6 < E) : WJ w1 g2 g6 g7 g8 s pa pn pc ta tc S t w' := by
  obtain ⟨ao, no, co, wb, Sw, h1, h2, h3, h4, h5, h6⟩ := h.ex; refine ⟨h.bel.trans (hb.below (by omega) h.bel.size), fun k hk => by have := h.bd k hk; have := hb.size; omega, h.m7, h.m8, h.b2.but hb (by omega), h.b6.but hb (by omega), ao, no, co, wb, Sw, h1.but hb (fun e => hg (e ▸ h.m7)), own_but h2 hb (fun e => hg (h3 g e).1), h3, h4.but hb (fun e => hg (e ▸ h.m8)), h5.mo (S' := fun k => k = g) (Mo.of_but hb rfl) (fun k hk e => hg (e ▸ (h6 k hk).1)), h6⟩
theorem WJ.bd2 {S : Nat → Prop} {t : WrT} {w w' : World} (h : WJ w1 g2 g6 g7 g8 s pa pn pc ta tc S t w) (hsz : w.heap.size ≤ w'.heap.size) : ∀ k, Sx S w w' k → w1.heap.size ≤ k ∧ k < w'.heap.size ∧ k ≠ g2 ∧ k ≠ g6 := fun k hk => by
  have h1 := h.bel.size; have h2 := h.b2.lt; have h3 := h.b6.lt
  rcases hk with hk | hk
  · have := h.bd k hk; omega
  · omega
set_option maxRecDepth 20000 in
theorem writeJ (tl : List (Nat × Nat)) (E : Nat) (h1E : w1.heap.size ≤ E) (h2E : g2 < E) (h6E : g6 < E) (h6b : w1.heap.size ≤ g6) (h78 : g8 ≠ g7) (hrow : Sl w1 ta pn tc 2 (tabsC tl)) (htb : TbsA w1 s.ps tl) (hlt : tl.length = pn) (hps : s.ps.length = pn) (hiv : s.iv ≤ 65535) :
    TellJ (WJ w1 g2 g6 g7 g8 s pa pn pc ta tc) E w1.heap.size 4000000 sizeW pn s.iv 91 93 (.pointer (some ⟨g6, 0, none⟩)) (.pointer (some ⟨g8, 0, none⟩)) (.pointer (some ⟨g7, 0, none⟩)) (.pointer (some ⟨g8, 0, none⟩)) (.pointer (some ⟨g2, 0, none⟩)) (putW s.ps) (againW s.iv) where
  low S t w h k hk := (h.bd k hk).1
  high S t w h k hk := (h.bd k hk).2.1
  late S t w w' h hb := h.late hb
  but S t w w' g h hb hE hg := h.but hb hE hg h1E h2E h6E
  grow t t' part x hx h := putW_grow hx h
  less t n := againW_less s.iv t n
  put S t w part x A hA h hp hz hx := by
    obtain ⟨ao, no, co, wb, Sw, e1, e2, e3, e4, e5, e6⟩ := h.ex; have hbel := h.bel; have hS : ∀ k, Sw k → k < w.heap.size := fun k hk => (h.bd k (e6 k hk).1).2.1; have hm7 := e1.lt; have hm8 := e4.lt; have hol := e2.lt; refine (wput1_any Sw g6 g8 wb ta pn tc tl s.ps t.2 part x A w hA h.b6 (hrow.mono hbel) (htb.late hbel) hlt hps e4 e5 hS (fun k => (h.bd _ (e6 _ k).1).2.2.2 rfl) (fun k => (e6 _ k).2.2.1 rfl) (fun y hy k => ?_) hp hx (by unfold sizeW at hz; omega)).mono ?_
    · have h1 := (h.bd _ (e6 _ k).1).1
      have hpn : 0 < pn := by omega
      obtain ⟨b, o, e, hb, _⟩ := hrow.lies 0 hpn; rw [hy] at e; injection e with e; rw [e] at h1; simp only at h1
      omega
    · rintro e w' ⟨hr, hm⟩
      have hmS := mo_sub hm (S' := S) fun k hk => (e6 k hk).1; refine ⟨?_, hmS⟩
      rcases hr with ⟨X, hX, rfl, hW⟩ | ⟨hX, rfl⟩
      · refine .inl ⟨_, putW_ok hX, rfl, ⟨hbel.trans (Mo.below hm hbel.size fun k hk hn => by have := (h.bd _ (e6 k hn).1).1; omega), h.bd2 hm.size, .inl h.m7, .inl h.m8, h.b2.mo hm (fun k => (h.bd _ (e6 _ k).1).2.2.1 rfl), h.b6.mo hm (fun k => (h.bd _ (e6 _ k).1).2.2.2 rfl),
          ao, no, co, wb, Sx Sw w w', e1.mo hm (fun k => (e6 _ k).2.1 rfl), own_mo e2 hm (fun k hk n => (e6 k n).2.2.2 hk), fun k hk => ⟨.inl (e3 k hk).1, (e3 k hk).2⟩, e4.mo hm (fun k => (e6 _ k).2.2.1 rfl), hW, fun k hk => ?_⟩⟩
        rcases hk with hk | hk
        · exact ⟨.inl (e6 k hk).1, (e6 k hk).2⟩
        · exact ⟨.inr hk, by omega, by omega, fun e => by have := (hol k e).2; omega⟩
      · exact .inr ⟨2, putW_no hX, by decide, rfl⟩
  again S t w n h hr hn hz := by
    obtain ⟨ao, no, co, wb, Sw, e1, e2, e3, e4, e5, e6⟩ := h.ex; have hbel := h.bel; have hm7 := e1.lt; have hm8 := e4.lt; refine (wagain_any Sw g2 g7 g8 wb ao no co t.1 t.2 s.ax s.dn s.iv pa pn pc n w e1 e2 e4 e5 h.b2 (fun k hk => (e6 k hk).2.2.2) (fun k => (e3 _ k).2.1 rfl) (fun k => (e3 _ k).2.2 rfl) (fun k => (h.bd _ (e3 _ k).1).2.2.1 rfl) h78 (by unfold sizeW at hz; omega) hr hiv hn).mono ?_; rintro e w' ⟨rfl, a', n', c', wb', k1, k2, k3, k4, k5, k6, k7, hm⟩
    have hSS : ∀ k, ((Value.slice ao no co).ownBlock = some k ∨ k = g7 ∨ k = g8) → S k := fun k hk => by
      rcases hk with hk | rfl | rfl
      · exact (e3 k hk).1
      · exact h.m7
      · exact h.m8
    have hmS := mo_sub hm (S' := S) hSS; have hol := k2.lt; have hwl := k4.lt
    refine ⟨rfl, ⟨hbel.trans (Mo.below hmS hbel.size fun k hk hn => by have := (h.bd _ hn).1; omega), h.bd2 hm.size, .inl h.m7, .inl h.m8, h.b2.mo hmS (fun k => (h.bd _ k).2.2.1 rfl), h.b6.mo hmS (fun k => (h.bd _ k).2.2.2 rfl),
      a', n', c', wb', _, k1, k2, fun k hk => ?_, k3, k4, fun k hk => ?_⟩, hmS⟩
    · rcases k6 k hk with h1 | h1
      · exact ⟨.inl (e3 k h1).1, (e3 k h1).2⟩
      · exact ⟨.inr ⟨h1, (hol k hk).2⟩, by omega, by omega⟩
    · rw [hk]
      exact ⟨.inr ⟨k5, hwl⟩, by omega, by omega, k7⟩
end
end Go.Proofs.Ytpjopeojeglogaa
