/- Frames: a row of numbers that came in; a row of structs of numbers. -/
import Derived.Test.YtheelhepelbgcaaFr
import Derived.Test.YtheelhepelbgcaaL9
import Derived.Deep.Strs
namespace Tt
open Go Go.RowKit Go.ChangeShapes Go.WideShapes Go.ChangeAt Go.Deep
set_option linter.unusedVariables false

section
variable {H : Type} {enc : TypeId × Value → H} {P : Program} {W : World} {base : Nat} {held : Bool}
theorem open_nums {k : IntKind} {t e : TypeId} {spare : Nat → Bool} {a : Option Addr} {n c fuel : Nat} {x : DataW H × List MemPlace} (ht : P.underlying t = some (.slice e)) (he : P.underlying e = some (.int k)) (hc : P.cellsOf e = 1)
    (h : DataW.trod enc P W base spare held fuel t (Value.slice a n c).cells.toList = some x) (hs : spare = fun _ => true) : ∃ l, Sl W a n c 1 (ints k l) ∧ ∀ x ∈ l, (Lit.int k x).wf = true := by
  subst hs
  rcases open_ints ht he hc h with ⟨hcs, _⟩ | ⟨y, l, c', zs, hcs, _, hl, hm, hz, _, hcell, hwz⟩
  · simp [Value.cells] at hcs
    obtain ⟨rfl, rfl, rfl⟩ := hcs
    exact ⟨[], Sl.nil _ _, fun x hx => by cases hx⟩
  · simp [Value.cells] at hcs
    obtain ⟨rfl, rfl, rfl⟩ := hcs
    exact ⟨_, Sl.of_ints hl hm (by simpa using hz) hcell, fun x hx => hwz x (List.mem_of_mem_take hx)⟩
/-- a struct of numbers, each in a cell of its own -/
theorem struct_nums {t T : TypeId} {fs : Array Field} {m fuel : Nat} {cs : List Value} {x : DataW H × List MemPlace} (ht : P.underlying t = some (.struct fs)) (hT : P.underlying T = some (.int .i64)) (hc : P.cellsOf T = 1) (hm : P.cellsOf t = m)
    (hf : ∀ i, i < m → ∃ f, fs[i]? = some f ∧ f.offset = i ∧ f.type = T) (h : DataW.trod enc P W base (fun _ => true) held fuel t cs = some x) :
    ∃ zs : List Int, zs.length = m ∧ cs = ints .i64 zs ∧ ∀ z ∈ zs, (Lit.int .i64 z).wf = true := by
  obtain ⟨xs, n, _, _, hl, hxl, hall⟩ := DataW.trod_struct ht h
  rw [hm] at hl
  have each : ∀ i, i < m → ∃ z : Int, cs[i]? = some (.int .i64 z) ∧ (Lit.int .i64 z).wf = true := fun i hi => by
    obtain ⟨f, h1, h2, h3⟩ := hf i hi
    have h4 := hall i f h1
    rw [h2, h3, hc] at h4
    have hil : i < xs.length := by
      rw [hxl]
      exact (Array.getElem?_eq_some_iff.1 h1).1
    rw [List.getElem?_eq_getElem hil] at h4
    obtain ⟨z, e0, _, hw⟩ := DataW.trod_int hT h4
    refine ⟨z, ?_, hw⟩
    have h5 : ((cs.drop i).take 1)[0]? = some (.int .i64 z) := by rw [e0]; rfl
    rw [List.getElem?_take, if_pos (by decide), List.getElem?_drop, Nat.add_zero] at h5
    exact h5
  have hex : ∀ i, ∃ z : Int, i < m → cs[i]? = some (.int .i64 z) ∧ (Lit.int .i64 z).wf = true := fun i => by
    by_cases hi : i < m
    · obtain ⟨z, hz⟩ := each i hi; exact ⟨z, fun _ => hz⟩
    · exact ⟨0, fun h0 => absurd h0 hi⟩
  obtain ⟨q, hq⟩ := Classical.axiomOfChoice hex
  refine ⟨(List.range m).map q, by simp, ?_, ?_⟩
  · apply List.ext_getElem?
    intro i
    by_cases hi : i < m
    · rw [(hq i hi).1]
      simp [ints, hi]
    · rw [List.getElem?_eq_none (by omega), List.getElem?_eq_none (by simp [ints]; omega)]
  · intro z hz
    obtain ⟨i, hi, rfl⟩ := List.mem_map.1 hz
    exact (hq i (by simpa using hi)).2
theorem flatm_len (m : Nat) (f : Nat → List Value) (n : Nat) (hf : ∀ i, i < n → (f i).length = m) : ((List.range n).flatMap f).length = n * m := by
  induction n with
  | zero => simp
  | succ n ih =>
    rw [List.range_succ, List.flatMap_append, List.length_append, ih (fun i hi => hf i (by omega))]
    simp [hf n (by omega), Nat.succ_mul]
theorem flatm_get (m : Nat) (f : Nat → List Value) (n : Nat) (hf : ∀ i, i < n → (f i).length = m) (i j : Nat) (hi : i < n) (hj : j < m) : ((List.range n).flatMap f)[i * m + j]? = (f i)[j]? := by
  induction n with
  | zero => omega
  | succ n ih =>
    have hl := flatm_len m f n (fun i hi => hf i (by omega))
    rw [List.range_succ, List.flatMap_append]
    by_cases h : i < n
    · have h1 : i * m + j < n * m := by
        have : (i + 1) * m ≤ n * m := Nat.mul_le_mul_right _ (by omega)
        rw [Nat.succ_mul] at this; omega
      rw [List.getElem?_append_left (by omega)]
      exact ih (fun i hi => hf i (by omega)) h
    · obtain rfl : i = n := by omega
      rw [List.getElem?_append_right (by omega), hl]
      simp
/-- a row of structs of numbers -/
theorem open_structs {ts t T : TypeId} {fs : Array Field} {m fuel : Nat} (hm0 : 0 < m) {a : Option Addr} {n c : Nat} {x : DataW H × List MemPlace} (hts : P.underlying ts = some (.slice t)) (ht : P.underlying t = some (.struct fs)) (hT : P.underlying T = some (.int .i64)) (hc : P.cellsOf T = 1) (hm : P.cellsOf t = m)
    (hf : ∀ i, i < m → ∃ f, fs[i]? = some f ∧ f.offset = i ∧ f.type = T) (h : DataW.trod enc P W base (fun _ => true) held fuel ts (Value.slice a n c).cells.toList = some x) :
    ∃ q : Nat → List Int, (∀ i, i < n → (q i).length = m ∧ ∀ z ∈ q i, (Lit.int .i64 z).wf = true) ∧ Sl W a n c m ((List.range n).flatMap fun i => ints .i64 (q i)) := by
  rcases DataW.trod_slice hts h with ⟨hcs, _⟩ | ⟨ad, len, cap, elems, rest, _, _, hcs, _, hb, hl, hmx, hlen, hel, _, _⟩
  · simp [Value.cells] at hcs
    obtain ⟨rfl, rfl, rfl⟩ := hcs
    exact ⟨fun _ => [], fun i hi => by omega, Sl.nil _ _⟩
  · simp [Value.cells] at hcs
    obtain ⟨rfl, rfl, rfl⟩ := hcs
    rw [hm] at hel
    have each : ∀ i, i < n → ∃ zs : List Int, zs.length = m ∧ (∀ j v, (ints .i64 zs)[j]? = some v → W.cell? (ad.add (i * m + j)) = some v) ∧ ∀ z ∈ zs, (Lit.int .i64 z).wf = true := fun i hi => by
      have h1 := hel i hi
      rw [List.getElem?_eq_getElem (by omega)] at h1
      obtain ⟨cs', hcc, htr⟩ := Option.bind_eq_some_iff.1 h1
      obtain ⟨zs, hzl, rfl, hw⟩ := struct_nums ht hT hc hm hf htr
      refine ⟨zs, hzl, fun j v hj => ?_, hw⟩
      obtain ⟨_, hcl, hget⟩ := World.cells?_some hcc
      have hjm : j < m := by
        have := (List.getElem?_eq_some_iff.1 hj).1
        rwa [ints_len, hzl] at this
      rw [← hj, ← hget j hjm, Addr.add_add]
    have hex : ∀ i, ∃ zs : List Int, i < n → zs.length = m ∧ (∀ j v, (ints .i64 zs)[j]? = some v → W.cell? (ad.add (i * m + j)) = some v) ∧ ∀ z ∈ zs, (Lit.int .i64 z).wf = true := fun i => by
      by_cases hi : i < n
      · obtain ⟨z, hz⟩ := each i hi; exact ⟨z, fun _ => hz⟩
      · exact ⟨[], fun h0 => absurd h0 hi⟩
    obtain ⟨q, hq⟩ := Classical.axiomOfChoice hex
    have hql : ∀ i, i < n → (ints .i64 (q i)).length = m := fun i hi => by rw [ints_len]; exact (hq i hi).1
    refine ⟨q, fun i hi => ⟨(hq i hi).1, (hq i hi).2.2⟩, flatm_len m _ n hql, hl, hmx, fun i hi => ?_, fun he => by cases he⟩
    have h00 := (hq 0 (by omega)).2.1 0 _ (List.getElem?_eq_getElem (by rw [hql 0 (by omega)]; exact hm0))
    rw [Nat.zero_mul, Nat.zero_add, add_zero_addr] at h00
    obtain ⟨e, hlt⟩ := cell_spot h00
    refine ⟨ad.block, ad.off, by rw [← e], hlt, fun j v hj => ?_⟩
    have hjn : j < n * m := by
      have := (List.getElem?_eq_some_iff.1 hj).1
      rwa [flatm_len m _ n hql] at this
    have hdm : j / m < n := by rw [Nat.div_lt_iff_lt_mul hm0]; exact hjn
    have hmod : j % m < m := Nat.mod_lt _ hm0
    have hj2 := flatm_get m (fun i => ints .i64 (q i)) n hql (j / m) (j % m) hdm hmod
    have hdiv : j / m * m + j % m = j := Nat.div_add_mod' j m
    rw [hdiv] at hj2
    have h1 := (hq (j / m) hdm).2.1 (j % m) v (hj2.symm.trans hj)
    rw [hdiv, e, mk_add] at h1
    exact h1
end
end Tt
