/- Chapter 12 (plain): each block of each plane stands once in the order. | Chapter 12: rows of numbers that are made and written; the order, place by place (plain). | Chapter 14: equality of equal arrays of numbers, of equal tables; quantisation tables that are the same: the law's own. -/
import Derived.Test.YtpjopeojeglogaaCo23
import Derived.Test.YtpjopeojeglogaaCo34
import Derived.ChangeKeysEq
import Derived.Laws.StructEq
import Derived.Test.YtpjopeojeglogaaCo09
namespace Go.Proofs.Ytpjopeojeglogaa
open Go.RowKit Tt
set_option linter.unusedVariables false
set_option linter.unusedSimpArgs false

theorem at_lt {a h n j : Nat} (ha : 1 ≤ a) (hh : 1 ≤ h) : n % a * h + j % h < a * h := row_lt (Nat.mod_lt n ha) (Nat.mod_lt j hh)
theorem at_row {a h v n j : Nat} (ha : 1 ≤ a) (hh : 1 ≤ h) : atU a h v n j / (a * h) = n / a * v + j / h := by
  unfold atU; rw [Nat.mul_assoc, Nat.mul_comm _ (a * h), Nat.mul_add_div (Nat.mul_pos ha hh), Nat.div_eq_of_lt (at_lt ha hh), Nat.add_zero]
theorem at_col {a h v n j : Nat} (ha : 1 ≤ a) (hh : 1 ≤ h) : atU a h v n j % (a * h) = n % a * h + j % h := by
  unfold atU; rw [Nat.mul_assoc, Nat.mul_comm _ (a * h), Nat.mul_add_mod, Nat.mod_eq_of_lt (at_lt ha hh)]
theorem quo_add {q r v : Nat} (hv : r < v) : (q * v + r) / v = q ∧ (q * v + r) % v = r := by
  rw [Nat.mul_comm]; exact ⟨by rw [Nat.mul_add_div (by omega), Nat.div_eq_of_lt hv, Nat.add_zero], by rw [Nat.mul_add_mod, Nat.mod_eq_of_lt hv]⟩
theorem at_unit {a h v n j : Nat} (ha : 1 ≤ a) (hh : 1 ≤ h) (hj : j < h * v) : atU a h v n j / (a * h) / v * a + atU a h v n j % (a * h) / h = n := by
  rw [at_row ha hh, at_col ha hh, (quo_add (div_lt hj)).1, (quo_add (Nat.mod_lt j hh)).1]; rw [Nat.mul_comm]; exact Nat.div_add_mod n a
theorem at_j {a h v n j : Nat} (ha : 1 ≤ a) (hh : 1 ≤ h) (hj : j < h * v) : atU a h v n j / (a * h) % v * h + atU a h v n j % (a * h) % h = j := by
  rw [at_row ha hh, at_col ha hh, (quo_add (div_lt hj)).2, (quo_add (Nat.mod_lt j hh)).2]; rw [Nat.mul_comm]; exact Nat.div_add_mod j h
/-- a block of a unit: its plane, and which of its blocks it is -/
theorem unit_mem {a n : Nat} {ps : List PtM} {x : Nat × Nat} (hx : x ∈ unitS a ps n) : ∃ p j, ps[x.1]? = some p ∧ j < p.1.toNat * p.2.1.toNat ∧ x.2 = atU a p.1.toNat p.2.1.toNat n j := by
  unfold unitS at hx; obtain ⟨l, hl, hxl⟩ := List.mem_flatten.1 hx; obtain ⟨⟨p, k⟩, hpk, rfl⟩ := List.mem_map.1 hl; have hk : ps[k]? = some p := List.mem_zipIdx_iff_getElem?.1 hpk; unfold unitP at hxl; obtain ⟨j, hj, rfl⟩ := List.mem_map.1 hxl; exact ⟨p, j, hk, List.mem_range.1 hj, rfl⟩
def PtsOk (ps : List PtM) : Prop := ∀ (k : Nat) p, ps[k]? = some p → 1 ≤ p.1.toNat ∧ 1 ≤ p.2.1.toNat
def Up (x y : Nat × Nat) : Prop := x.1 ≤ y.1 ∧ x ≠ y
theorem unitP_up {a n k : Nat} {p : PtM} (ha : 1 ≤ a) (hh : 1 ≤ p.1.toNat) : (unitP a n k p).Pairwise Up := by
  unfold unitP; rw [List.pairwise_map]; refine List.Pairwise.imp_of_mem (R := fun i j => i < j) (fun {i j} hi hj hij => ?_) List.pairwise_lt_range; have hi := List.mem_range.1 hi; have hj := List.mem_range.1 hj; refine ⟨Nat.le_refl _, fun e => ?_⟩; have e2 : atU a p.1.toNat p.2.1.toNat n i = atU a p.1.toNat p.2.1.toNat n j := congrArg Prod.snd e; have h1 := at_j (n := n) ha hh hi; have h2 := at_j (n := n) ha hh hj; rw [e2] at h1
  omega
theorem unitS_up {a n : Nat} {ps : List PtM} (ha : 1 ≤ a) (hp : PtsOk ps) : (unitS a ps n).Pairwise Up := by
  unfold unitS; rw [List.pairwise_flatten]
  constructor
  · intro l hl
    obtain ⟨⟨p, k⟩, hpk, rfl⟩ := List.mem_map.1 hl; exact unitP_up ha (hp k p (List.mem_zipIdx_iff_getElem?.1 hpk)).1
  · rw [List.pairwise_map, List.pairwise_iff_getElem]
    intro i j hi hj hij x hx y hy; have e1 : (ps.zipIdx[i]).2 = i := by simp
    have e2 : (ps.zipIdx[j]).2 = j := by simp
    unfold unitP at hx hy; obtain ⟨q, _, rfl⟩ := List.mem_map.1 hx; obtain ⟨r, _, rfl⟩ := List.mem_map.1 hy; unfold plU; rw [e1, e2]; exact ⟨Nat.le_of_lt hij, fun e => Nat.ne_of_lt hij (congrArg Prod.fst e)⟩
def unitN (ps : List PtM) : Nat := (ps.map fun p => p.1.toNat * p.2.1.toNat).sum
theorem unitS_many (a n : Nat) (ps : List PtM) : (unitS a ps n).length = unitN ps := by
  unfold unitS unitN; rw [List.length_flatten, List.map_map]
  have : (List.length ∘ fun x : PtM × Nat => unitP a n x.2 x.1) = (fun p : PtM => p.1.toNat * p.2.1.toNat) ∘ Prod.fst := by
    funext x
    simp [unitP]
  rw [this, ← List.map_map]
  simp
theorem unitsS_len (a n : Nat) (ps : List PtM) : (unitsS a ps n).length = n * unitN ps := by
  induction n with
  | zero => simp [unitsS]
  | succ n ih => rw [unitsS_snoc, List.length_append, ih, unitS_many, Nat.succ_mul]
theorem unitsS_get {a U : Nat} {ps : List PtM} (hU : unitN ps = U) (N : Nat) : ∀ {k : Nat}, k < N * U → (unitsS a ps N)[k]? = (unitS a ps (k / U))[k % U]? := by
  induction N with
  | zero => intro k hk; omega
  | succ N ih =>
    intro k hk; rw [unitsS_snoc]; have hl := unitsS_len a N ps; rw [hU] at hl
    rcases Nat.lt_or_ge k (N * U) with h | h
    · rw [List.getElem?_append_left (by omega)]; exact ih h
    · rw [List.getElem?_append_right (by omega), hl]
      rw [Nat.succ_mul] at hk; have hU0 : 0 < U := by omega
      have e1 : k / U = N := by
        rw [show k = U * N + (k - N * U) by rw [Nat.mul_comm U N]; omega, Nat.mul_add_div hU0, Nat.div_eq_of_lt (by omega), Nat.add_zero]
      have e2 : k % U = k - N * U := by
        conv => lhs; rw [show k = U * N + (k - N * U) by rw [Nat.mul_comm U N]; omega]
        rw [Nat.mul_add_mod, Nat.mod_eq_of_lt (by omega)]
      rw [e1, e2]
theorem unitsS_nodup {a : Nat} {ps : List PtM} (ha : 1 ≤ a) (hp : PtsOk ps) (N : Nat) : (unitsS a ps N).Pairwise (· ≠ ·) := by
  unfold unitsS; rw [List.pairwise_flatten]
  constructor
  · intro l hl
    obtain ⟨n, _, rfl⟩ := List.mem_map.1 hl; exact (unitS_up ha hp).imp fun h => h.2
  · rw [List.pairwise_map]
    refine List.pairwise_lt_range.imp fun {i j} hij x hx y hy e => ?_; subst e; obtain ⟨p, q, h1, h2, h3⟩ := unit_mem hx; obtain ⟨p', q', k1, k2, k3⟩ := unit_mem hy; rw [h1] at k1; injection k1 with k1; subst k1; have hpp := hp _ _ h1; have e1 := at_unit (n := i) ha hpp.1 h2; have e2 := at_unit (n := j) ha hpp.1 k2; rw [← h3] at e1; rw [← k3] at e2
    omega
end Go.Proofs.Ytpjopeojeglogaa

namespace Go.Proofs.Ytpjopeojeglogaa
open Go.RowKit Tt
set_option linter.unusedVariables false
set_option linter.unusedSimpArgs false

/-- rows that were made since B: where each lies, and its numbers -/
def oiV (x : Nat × List Int) : Value := .slice (some ⟨x.1, 0, none⟩) x.2.length x.2.length
structure OutI (B : Nat) (w : World) (a : Option Addr) (n c : Nat) (L : List (Nat × List Int)) : Prop where
  own : w.ownsRow B 35 1 (.slice a n c) n (L.map oiV)
  blk : ∀ (i : Nat) x, L[i]? = some x → B ≤ x.1 ∧ Blk w x.1 3 (ints .i64 x.2).toArray
  inj : ∀ (i j : Nat) x y, L[i]? = some x → L[j]? = some y → x.1 = y.1 → i = j
section
variable {B : Nat} {w w' : World} {a : Option Addr} {n c : Nat} {L : List (Nat × List Int)}
theorem OutI.late (h : OutI B w a n c L) (hb : Below w.heap.size w w') : OutI B w' a n c L :=
  ⟨own_later h.own hb, fun i x hx => ⟨(h.blk i x hx).1, (h.blk i x hx).2.late hb⟩, h.inj⟩
theorem OutI.len (h : OutI B w a n c L) : L.length = n := by
  have := (Sl.of_own h.own).1.len; rw [List.length_map] at this; omega
theorem OutI.put (h : OutI B w a n c L) {i : Nat} {x : Nat × List Int} (hx : L[i]? = some x) (k : Nat) (v : Int) : OutI B (w.setCell ⟨x.1, k, none⟩ (.int .i64 v)) a n c (L.set i (x.1, x.2.set k v)) := by
  have hil := (List.getElem?_eq_some_iff.1 hx).1; obtain ⟨hB, hbl⟩ := h.blk i x hx; have hbt : But x.1 w (w.setCell ⟨x.1, k, none⟩ (.int .i64 v)) := (But.refl x.1 w).set k _
  have hmap : (L.set i (x.1, x.2.set k v)).map oiV = L.map oiV := by
    refine List.ext_getElem? fun j => ?_; rw [List.getElem?_map, List.getElem?_map]
    by_cases hj : i = j
    · subst hj
      rw [List.getElem?_set_self hil, hx]
      simp [oiV]
    · rw [List.getElem?_set_ne hj]
  refine ⟨by rw [hmap]; exact own_but h.own hbt (own_neB h.own hbl (by decide)), fun j y hy => ?_, fun j1 j2 y1 y2 h1 h2 he => ?_⟩
  · by_cases hj : i = j
    · subst hj
      rw [List.getElem?_set_self hil] at hy; injection hy with hy; subst hy; refine ⟨hB, ?_⟩; have := hbl.set k (.int .i64 v)
      rwa [show (ints .i64 x.2).toArray.setIfInBounds k (.int .i64 v) = (ints .i64 (x.2.set k v)).toArray by unfold ints; rw [List.setIfInBounds_toArray, List.map_set]] at this
    · rw [List.getElem?_set_ne hj] at hy
      obtain ⟨k1, k2⟩ := h.blk j y hy; exact ⟨k1, k2.but hbt (fun e => hj (h.inj i j x y hx hy e.symm))⟩
  · have key : ∀ (j : Nat) y, (L.set i (x.1, x.2.set k v))[j]? = some y → ∃ z, L[j]? = some z ∧ z.1 = y.1 := fun j y hy => by
      by_cases hj : i = j
      · subst hj
        rw [List.getElem?_set_self hil] at hy; injection hy with hy; exact ⟨x, hx, by rw [← hy]⟩
      · rw [List.getElem?_set_ne hj] at hy
        exact ⟨y, hy, rfl⟩
    obtain ⟨z1, a1, b1⟩ := key j1 y1 h1; obtain ⟨z2, a2, b2⟩ := key j2 y2 h2; exact h.inj j1 j2 z1 z2 a1 a2 (by rw [b1, b2, he])
theorem OutI.snoc {a' : Option Addr} {c' : Nat} (h : OutI B w a n c L) {g : Nat} {l : List Int} (hg : B ≤ g) (hb : Blk w g 3 (ints .i64 l).toArray) (hne : ∀ (i : Nat) x, L[i]? = some x → x.1 ≠ g)
    (ho : w'.ownsRow B 35 1 (.slice a' (n + 1) c') (n + 1) (L.map oiV ++ [oiV (g, l)])) (hgr : w.grownBy w' (Value.slice a n c).ownBlock) : OutI B w' a' (n + 1) c' (L ++ [(g, l)]) := by
  have hm := Mo.of_grown (S := fun k => (Value.slice a n c).ownBlock = some k) hgr fun k hk => hk
  have key : ∀ (i : Nat) x, (L ++ [(g, l)])[i]? = some x → (L[i]? = some x) ∨ (i = L.length ∧ x = (g, l)) := fun i x hx => by
    rcases Nat.lt_or_ge i L.length with hi | hi
    · rw [List.getElem?_append_left hi] at hx; exact .inl hx
    · have hi2 := (List.getElem?_eq_some_iff.1 hx).1
      rw [List.length_append, List.length_singleton] at hi2; obtain rfl : i = L.length := by omega
      rw [List.getElem?_concat_length] at hx; injection hx with hx; exact .inr ⟨rfl, hx.symm⟩
  refine ⟨by rw [List.map_append]; exact ho, fun i x hx => ?_, fun i j x y hx hy he => ?_⟩
  · rcases key i x hx with hx | ⟨rfl, rfl⟩
    · obtain ⟨k1, k2⟩ := h.blk i x hx
      exact ⟨k1, k2.mo hm (own_neB h.own k2 (by decide))⟩
    · exact ⟨hg, hb.mo hm (own_neB h.own hb (by decide))⟩
  · rcases key i x hx with hx | ⟨rfl, rfl⟩
    · rcases key j y hy with hy | ⟨rfl, rfl⟩
      · exact h.inj i j x y hx hy he
      · exact absurd he (hne i x hx)
    · rcases key j y hy with hy | ⟨rfl, rfl⟩
      · exact absurd he.symm (hne j y hy)
      · rfl
theorem OutI.cell (h : OutI B w a n c L) {i : Nat} {x : Nat × List Int} (hx : L[i]? = some x) : ∃ g, a = some ⟨g, 0, none⟩ ∧ g < w.heap.size ∧ w.cell? ⟨g, i, none⟩ = some (oiV x) := by
  have hi : i < n := by rw [← h.len]; exact (List.getElem?_eq_some_iff.1 hx).1
  obtain ⟨g, e, _, hg, _, hc⟩ := own_at h.own hi; exact ⟨g, e, hg, hc i (oiV x) (by rw [List.getElem?_map, hx]; rfl)⟩
end
theorem placesI_get : ∀ (U : List (Nat × Nat)) (k : Nat) (y : Nat × Nat), U[k]? = some y → (placesI U)[2 * k]? = some (y.1 : Int) ∧ (placesI U)[2 * k + 1]? = some (y.2 : Int)
  | [], k, y, h => by cases h
  | x :: U, 0, y, h => by
    injection h with h; subst h; exact ⟨rfl, rfl⟩
  | x :: U, k + 1, y, h => by
    have ih := placesI_get U k y h; have e : placesI (x :: U) = (x.1 : Int) :: (x.2 : Int) :: placesI U := rfl; rw [e]; exact ih
theorem placesI_len (U : List (Nat × Nat)) : (placesI U).length = 2 * U.length := by
  induction U with
  | nil => rfl
  | cons x U ih =>
    have e : placesI (x :: U) = (x.1 : Int) :: (x.2 : Int) :: placesI U := rfl; rw [e, List.length_cons, List.length_cons, List.length_cons, ih]; omega
/-- what the law asks of each place of the order -/
theorem order_step {a d U k : Nat} {ps : List PtM} (ha : 1 ≤ a) (hp : ∀ (k : Nat) p, ps[k]? = some p → mayPt p = true) (hU : unitN ps = U) (hk : k < (a * d) * U) :
    ∃ y p, (unitsS a ps (a * d))[k]? = some y ∧ ps[y.1]? = some p ∧ y.2 < a * p.1.toNat * d * p.2.1.toNat ∧ y ∉ (unitsS a ps (a * d)).take k ∧ y.2 / (a * p.1.toNat) / p.2.1.toNat * a + y.2 % (a * p.1.toNat) / p.1.toNat = k / U ∧
      (0 < k % U → ∃ z, (unitsS a ps (a * d))[k - 1]? = some z ∧ z.1 ≤ y.1) := by
  have hpo : PtsOk ps := fun i p hi => by have := mayPt_bd (hp i p hi); omega
  have hU0 : 0 < U := by
    rcases Nat.eq_zero_or_pos U with h | h
    · rw [h, Nat.mul_zero] at hk; omega
    · exact h
  have hkl : k < (unitsS a ps (a * d)).length := by rw [unitsS_len, hU]; exact hk
  obtain ⟨y, hy⟩ : ∃ y, (unitsS a ps (a * d))[k]? = some y := ⟨_, List.getElem?_eq_getElem hkl⟩; have hyu := hy; rw [unitsS_get hU (a * d) hk] at hyu; have hn : k / U < a * d := Nat.div_lt_of_lt_mul (by rw [Nat.mul_comm]; exact hk); have hmem := List.mem_of_getElem? hyu; obtain ⟨p, hpp, hlt⟩ := unit_in ha hp hn hmem; obtain ⟨p2, j, hp2, hj, he⟩ := unit_mem hmem; rw [hpp] at hp2; injection hp2 with hp2; subst hp2; have hpk := hpo _ _ hpp; refine ⟨y, p, hy, hpp, hlt, fun hm => ?_, ?_, fun h0 => ?_⟩
  · obtain ⟨i, hi, e⟩ := List.mem_iff_getElem.1 hm
    rw [List.length_take] at hi; have h1 := List.pairwise_iff_getElem.1 (unitsS_nodup ha hpo (a * d)) i k (by omega) hkl (by omega); rw [List.getElem_take] at e; rw [List.getElem?_eq_getElem hkl] at hy; injection hy with hy; exact h1 (e.trans hy.symm)
  · rw [he]; exact at_unit ha hpk.1 hj
  · have hk1 : k - 1 < a * d * U := by omega
    obtain ⟨z, hz⟩ : ∃ z, (unitsS a ps (a * d))[k - 1]? = some z := ⟨_, List.getElem?_eq_getElem (by omega)⟩; have hzu := hz; rw [unitsS_get hU (a * d) hk1] at hzu; have hdm := Nat.div_add_mod k U; have hml := Nat.mod_lt k hU0
    have e1 : (k - 1) / U = k / U := by
      have : k - 1 = U * (k / U) + (k % U - 1) := by omega
      rw [this, Nat.mul_add_div hU0, Nat.div_eq_of_lt (show k % U - 1 < U by omega), Nat.add_zero]
    have e2 : (k - 1) % U = k % U - 1 := by
      have : k - 1 = U * (k / U) + (k % U - 1) := by omega
      rw [this, Nat.mul_add_mod, Nat.mod_eq_of_lt (show k % U - 1 < U by omega)]
    rw [e1, e2] at hzu; obtain ⟨h1, e3⟩ := List.getElem?_eq_some_iff.1 hzu; obtain ⟨h2, e4⟩ := List.getElem?_eq_some_iff.1 hyu; have := List.pairwise_iff_getElem.1 (unitS_up ha hpo (n := k / U)) (k % U - 1) (k % U) h1 h2 (by omega); rw [e3, e4] at this; exact ⟨z, hz, this.1⟩
end Go.Proofs.Ytpjopeojeglogaa

namespace Go.Proofs.Ytpjopeojeglogaa
open Go.RowKit Tt
set_option linter.unusedVariables false
set_option linter.unusedSimpArgs false

theorem info_int : ∃ i, Try.prog.info? 3 = some i := by
  cases h : Try.prog.info? 3 with
  | none =>
    have : (Try.prog.info? 3).isSome = true := by kernel_rfl
    rw [h] at this
    cases this
  | some i => exact ⟨i, rfl⟩
theorem items_same (d : Nat) (W : World) (l : List Int) (A : Array Value) (hA : (ints .i64 l).toArray = A) : ∀ (is : List Nat), (∀ i ∈ is, i < l.length) → (Op.eqItems (d + 1) 3 1 A A is).run Try.prog W = .ok true W
  | [], _ => by simp [Op.eqItems]
  | i :: is, h => by
    have hi := h i List.mem_cons_self; have hp : (part 3 A i).run Try.prog W = .ok (.int .i64 (l.getD i 0)) W := run_part_plain (P := Try.prog) W (e := 3) (by kernel_rfl) (by rw [← hA, List.getElem?_toArray]; exact ints_get hi); have he := run_equalIn_int (P := Try.prog) W d 3 .i64 _ (l.getD i 0) (l.getD i 0) Try.underlying3; rw [beq_self_eq_true] at he; simp only [Op.eqItems, Sem.run_bind, Nat.mul_one, hp, Result.andThen_ok, he, Bool.not_true, Bool.false_eq_true, if_false]; exact items_same d W l A hA is (fun j hj => h j (List.mem_cons_of_mem _ hj))
theorem eq_arr {T : TypeId} {n : Nat} (d : Nat) (W : World) (l : List Int) (A : Array Value) (hA : (ints .i64 l).toArray = A) (hn : l.length = n) (hu : Try.prog.underlying T = some (.array n 3)) : (Op.equalIn (d + 2) T (.agg A) (.agg A)).run Try.prog W = .ok true W := by
  obtain ⟨i, hi⟩ := info_int; have hc : Try.prog.cellsOf 3 = 1 := by kernel_rfl
  rw [run_equalIn_array (w := W) (d + 1) A A hu hi, hc]; exact items_same d W l A hA (List.range n) (fun i hi => by rw [hn]; exact List.mem_range.1 hi)
theorem neq_arr {T : TypeId} {n : Nat} (W : World) (l : List Int) (A : Array Value) (hA : (ints .i64 l).toArray = A) (hn : l.length = n) (hu : Try.prog.underlying T = some (.array n 3)) : (binOp .neq T (.agg A) (.agg A)).run Try.prog W = .ok (.bool false) W := by
  rw [run_neq_struct, eq_arr 9998 W l A hA hn hu]
  rfl
attribute [-go_sem] run_neq_struct
end Go.Proofs.Ytpjopeojeglogaa
