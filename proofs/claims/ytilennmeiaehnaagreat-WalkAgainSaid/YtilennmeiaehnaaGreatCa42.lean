/- Frames: what came in, as the walks take it; the witness of a row that lists a variable. | Frames: a row of numbers that came in; a row of structs of numbers. | Frames: a row of shapes that came in. -/
import Derived.ProofKit
import Derived.OpenShut
import Derived.ShutString
import Derived.ChangeOld
import Derived.Below
import Derived.SizedLaws
import Derived.LaidMore
import Derived.LaidLaws
import Derived.Stop.Joined
import Derived.Deep.DeepHandedRow
import Derived.Deep.Matrix
import Derived.Test.YtilennmeiaehnaaGreatCa00
import Derived.Test.YtilennmeiaehnaaGreatRows
import Derived.Deep.Strs
import Derived.Lib.SmallJoins
import Derived.Test.YtilennmeiaehnaaGreatCa06
namespace Tt
open Go Go.RowKit Go.ChangeShapes Go.WideShapes Go.ChangeAt
set_option linter.unusedVariables false

theorem cell_spot {w : World} {a : Addr} {v : Value} (h : w.cell? a = some v) : a = ⟨a.block, a.off, none⟩ ∧ a.block < w.heap.size := by
  refine ⟨?_, World.block_lt_of_cell? w a h⟩; obtain ⟨b, o, s⟩ := a
  cases s with
  | none => rfl
  | some x => simp [World.cell?] at h; split at h <;> simp_all
theorem add_zero_addr (a : Addr) : a.add 0 = a := rfl
theorem mk_add (b o n : Nat) : (⟨b, o, none⟩ : Addr).add n = ⟨b, o + n, none⟩ := by
  unfold Addr.add
  split
  · next h => rw [h, Nat.add_zero]
  · rfl

/-- A row of cells behind an address reads as a slice. -/
theorem Sl.of_cells {w : World} {x : Addr} {n c : Nat} {vs : List Value} (hn : n ≤ c) (hc : c ≤ maxLen) (hl : vs.length = c) (h : ∀ i v, vs[i]? = some v → w.cell? (x.add i) = some v) : Sl w (some x) n c 1 (vs.take n) := by
  refine ⟨by rw [List.length_take]; omega, hn, hc, fun i hi => ?_, fun he => by cases he⟩; have h0 := h 0 _ (List.getElem?_eq_getElem (show 0 < vs.length by omega)); rw [add_zero_addr] at h0; obtain ⟨e, hlt⟩ := cell_spot h0; refine ⟨x.block, x.off, by rw [← e], hlt, fun j v hj => ?_⟩
  have hj' : vs[j]? = some v := by
    rw [List.getElem?_take] at hj
    split at hj
    · exact hj
    · cases hj
  have := h j v hj'; rw [e, mk_add] at this; exact this

theorem Sl.of_ints {w : World} {k : IntKind} {x : Addr} {n c : Nat} {zs : List Int} (hn : n ≤ c) (hc : c ≤ maxLen) (hl : zs.length = c) (h : ∀ i, i < zs.length → w.cell? (x.add i) = some (.int k (zs.getD i 0))) : Sl w (some x) n c 1 (ints k (zs.take n)) := by
  have := Sl.of_cells (vs := ints k zs) hn hc (by rw [ints_len, hl]) (fun i v hv => by
    have hi : i < zs.length := by
      have := (List.getElem?_eq_some_iff.1 hv).1
      rwa [ints_len] at this
    rw [ints_get hi] at hv; rw [h i hi]; exact hv)
  rwa [show (ints k zs).take n = ints k (zs.take n) by simp [ints, List.map_take]] at this
theorem byt_wf {zs : List Int} (h : ∀ n ∈ zs, (Lit.int .u8 n).wf = true) : Byt zs := fun n hn => by
  have := h n hn
  simp [Lit.wf, IntKind.min, IntKind.max, IntKind.signed, IntKind.bits] at this
  omega
/-- A slice of bytes that came in. -/
theorem open_bytes {H : Type} {enc : TypeId × Value → H} {P : Program} {W : World} {t e : TypeId} {base : Nat} {spare : Nat → Bool} {held : Bool} {a : Option Addr} {n c fuel : Nat} {x : DataW H × List MemPlace} (ht : P.underlying t = some (.slice e)) (he : P.underlying e = some (.int .u8)) (hc : P.cellsOf e = 1)
    (h : DataW.trod enc P W base spare held fuel t (Value.slice a n c).cells.toList = some x) (hs : spare = fun _ => true) : ∃ l, Sl W a n c 1 (ints .u8 l) ∧ Byt l := by
  subst hs
  rcases open_ints ht he hc h with ⟨hcs, _⟩ | ⟨y, l, c', zs, hcs, _, hl, hm, hz, _, hcell, hwz⟩
  · simp [Value.cells] at hcs
    obtain ⟨rfl, rfl, rfl⟩ := hcs; exact ⟨[], Sl.nil _ _, fun x hx => by cases hx⟩
  · simp [Value.cells] at hcs
    obtain ⟨rfl, rfl, rfl⟩ := hcs; exact ⟨_, Sl.of_ints hl hm (by simpa using hz) hcell, (byt_wf hwz).take _⟩

section
variable {H : Type} {enc : TypeId × Value → H}
end
end Tt

namespace Tt
open Go Go.RowKit Go.ChangeShapes Go.WideShapes Go.ChangeAt Go.Deep
set_option linter.unusedVariables false

section
variable {H : Type} {enc : TypeId × Value → H} {P : Program} {W : World} {base : Nat} {held : Bool}
/-- a struct of numbers, each in a cell of its own -/
theorem struct_nums {t T : TypeId} {fs : Array Field} {m fuel : Nat} {cs : List Value} {x : DataW H × List MemPlace} (ht : P.underlying t = some (.struct fs)) (hT : P.underlying T = some (.int .i64)) (hc : P.cellsOf T = 1) (hm : P.cellsOf t = m)
    (hf : ∀ i, i < m → ∃ f, fs[i]? = some f ∧ f.offset = i ∧ f.type = T) (h : DataW.trod enc P W base (fun _ => true) held fuel t cs = some x) :
    ∃ zs : List Int, zs.length = m ∧ cs = ints .i64 zs ∧ ∀ z ∈ zs, (Lit.int .i64 z).wf = true := by
  obtain ⟨xs, n, _, _, hl, hxl, hall⟩ := DataW.trod_struct ht h; rw [hm] at hl
  have each : ∀ i, i < m → ∃ z : Int, cs[i]? = some (.int .i64 z) ∧ (Lit.int .i64 z).wf = true := fun i hi => by
    obtain ⟨f, h1, h2, h3⟩ := hf i hi; have h4 := hall i f h1; rw [h2, h3, hc] at h4
    have hil : i < xs.length := by
      rw [hxl]; exact (Array.getElem?_eq_some_iff.1 h1).1
    rw [List.getElem?_eq_getElem hil] at h4; obtain ⟨z, e0, _, hw⟩ := DataW.trod_int hT h4; refine ⟨z, ?_, hw⟩; have h5 : ((cs.drop i).take 1)[0]? = some (.int .i64 z) := by rw [e0]; rfl
    rw [List.getElem?_take, if_pos (by decide), List.getElem?_drop, Nat.add_zero] at h5; exact h5
  have hex : ∀ i, ∃ z : Int, i < m → cs[i]? = some (.int .i64 z) ∧ (Lit.int .i64 z).wf = true := fun i => by
    by_cases hi : i < m
    · obtain ⟨z, hz⟩ := each i hi; exact ⟨z, fun _ => hz⟩
    · exact ⟨0, fun h0 => absurd h0 hi⟩
  obtain ⟨q, hq⟩ := Classical.axiomOfChoice hex; refine ⟨(List.range m).map q, by simp, ?_, ?_⟩
  · apply List.ext_getElem?
    intro i
    by_cases hi : i < m
    · rw [(hq i hi).1]
      simp [ints, hi]
    · rw [List.getElem?_eq_none (by omega), List.getElem?_eq_none (by simp [ints]; omega)]
  · intro z hz
    obtain ⟨i, hi, rfl⟩ := List.mem_map.1 hz; exact (hq i (by simpa using hi)).2
theorem flatm_len (m : Nat) (f : Nat → List Value) (n : Nat) (hf : ∀ i, i < n → (f i).length = m) : ((List.range n).flatMap f).length = n * m := by
  induction n with
  | zero => simp
  | succ n ih =>
    rw [List.range_succ, List.flatMap_append, List.length_append, ih (fun i hi => hf i (by omega))]
    simp [hf n (by omega), Nat.succ_mul]
theorem flatm_get (m : Nat) (f : Nat → List Value) (n : Nat) (hf : ∀ i, i < n → (f i).length = m) (i j : Nat) (hi : i < n) (hj : j < m) : ((List.range n).flatMap f)[i * m + j]? = (f i)[j]? := by
  induction n with
  | zero => omega
  | succ n ih =>
    have hl := flatm_len m f n (fun i hi => hf i (by omega)); rw [List.range_succ, List.flatMap_append]
    by_cases h : i < n
    · have h1 : i * m + j < n * m := by
        have : (i + 1) * m ≤ n * m := Nat.mul_le_mul_right _ (by omega); rw [Nat.succ_mul] at this; omega
      rw [List.getElem?_append_left (by omega)]; exact ih (fun i hi => hf i (by omega)) h
    · obtain rfl : i = n := by omega
      rw [List.getElem?_append_right (by omega), hl]
      simp
/-- a row of structs of numbers -/
theorem open_structs {ts t T : TypeId} {fs : Array Field} {m fuel : Nat} (hm0 : 0 < m) {a : Option Addr} {n c : Nat} {x : DataW H × List MemPlace} (hts : P.underlying ts = some (.slice t)) (ht : P.underlying t = some (.struct fs)) (hT : P.underlying T = some (.int .i64)) (hc : P.cellsOf T = 1) (hm : P.cellsOf t = m)
    (hf : ∀ i, i < m → ∃ f, fs[i]? = some f ∧ f.offset = i ∧ f.type = T) (h : DataW.trod enc P W base (fun _ => true) held fuel ts (Value.slice a n c).cells.toList = some x) :
    ∃ q : Nat → List Int, (∀ i, i < n → (q i).length = m ∧ ∀ z ∈ q i, (Lit.int .i64 z).wf = true) ∧ Sl W a n c m ((List.range n).flatMap fun i => ints .i64 (q i)) := by
  rcases DataW.trod_slice hts h with ⟨hcs, _⟩ | ⟨ad, len, cap, elems, rest, _, _, hcs, _, hb, hl, hmx, hlen, hel, _, _⟩
  · simp [Value.cells] at hcs
    obtain ⟨rfl, rfl, rfl⟩ := hcs; exact ⟨fun _ => [], fun i hi => by omega, Sl.nil _ _⟩
  · simp [Value.cells] at hcs
    obtain ⟨rfl, rfl, rfl⟩ := hcs; rw [hm] at hel
    have each : ∀ i, i < n → ∃ zs : List Int, zs.length = m ∧ (∀ j v, (ints .i64 zs)[j]? = some v → W.cell? (ad.add (i * m + j)) = some v) ∧ ∀ z ∈ zs, (Lit.int .i64 z).wf = true := fun i hi => by
      have h1 := hel i hi; rw [List.getElem?_eq_getElem (by omega)] at h1; obtain ⟨cs', hcc, htr⟩ := Option.bind_eq_some_iff.1 h1; obtain ⟨zs, hzl, rfl, hw⟩ := struct_nums ht hT hc hm hf htr; refine ⟨zs, hzl, fun j v hj => ?_, hw⟩; obtain ⟨_, hcl, hget⟩ := World.cells?_some hcc
      have hjm : j < m := by
        have := (List.getElem?_eq_some_iff.1 hj).1
        rwa [ints_len, hzl] at this
      rw [← hj, ← hget j hjm, Addr.add_add]
    have hex : ∀ i, ∃ zs : List Int, i < n → zs.length = m ∧ (∀ j v, (ints .i64 zs)[j]? = some v → W.cell? (ad.add (i * m + j)) = some v) ∧ ∀ z ∈ zs, (Lit.int .i64 z).wf = true := fun i => by
      by_cases hi : i < n
      · obtain ⟨z, hz⟩ := each i hi; exact ⟨z, fun _ => hz⟩
      · exact ⟨[], fun h0 => absurd h0 hi⟩
    obtain ⟨q, hq⟩ := Classical.axiomOfChoice hex; have hql : ∀ i, i < n → (ints .i64 (q i)).length = m := fun i hi => by rw [ints_len]; exact (hq i hi).1
    refine ⟨q, fun i hi => ⟨(hq i hi).1, (hq i hi).2.2⟩, flatm_len m _ n hql, hl, hmx, fun i hi => ?_, fun he => by cases he⟩; have h00 := (hq 0 (by omega)).2.1 0 _ (List.getElem?_eq_getElem (by rw [hql 0 (by omega)]; exact hm0)); rw [Nat.zero_mul, Nat.zero_add, add_zero_addr] at h00; obtain ⟨e, hlt⟩ := cell_spot h00; refine ⟨ad.block, ad.off, by rw [← e], hlt, fun j v hj => ?_⟩
    have hjn : j < n * m := by
      have := (List.getElem?_eq_some_iff.1 hj).1
      rwa [flatm_len m _ n hql] at this
    have hdm : j / m < n := by rw [Nat.div_lt_iff_lt_mul hm0]; exact hjn
    have hmod : j % m < m := Nat.mod_lt _ hm0; have hj2 := flatm_get m (fun i => ints .i64 (q i)) n hql (j / m) (j % m) hdm hmod; have hdiv : j / m * m + j % m = j := Nat.div_add_mod' j m; rw [hdiv] at hj2; have h1 := (hq (j / m) hdm).2.1 (j % m) v (hj2.symm.trans hj); rw [hdiv, e, mk_add] at h1; exact h1
end
end Tt

namespace Go.Proofs.YtilennmeiaehnaaGreat
open Go.ChangeShapes Go.WideShapes Go.ChangeAt Go.RowKit Go.Deep Tt
set_option linter.unusedVariables false
set_option linter.unusedSimpArgs false

section
variable {H : Type} {enc : TypeId × Value → H} {W : World} {base : Nat} {held : Bool}
theorem lenn4 {α : Type} {l : List α} (h : l.length = 4) : ∃ a b c d, l = [a, b, c, d] := by
  match l, h with
  | [a, b, c, d], _ => exact ⟨a, b, c, d, rfl⟩
theorem flatMap_same {α β : Type} {l : List α} {f g : α → List β} (h : ∀ x ∈ l, f x = g x) : l.flatMap f = l.flatMap g := by
  induction l with
  | nil => rfl
  | cons x r ih => rw [List.flatMap_cons, List.flatMap_cons, h x (by simp), ih (fun y hy => h y (by simp [hy]))]
theorem open_links {fuel : Nat} {a : Option Addr} {n cp : Nat} {x : DataW H × List MemPlace} (h : DataW.trod enc Tryz.prog W base (fun _ => true) held fuel 48 (Value.slice a n cp).cells.toList = some x) :
    ∃ lks : List Lk, Sl W a n cp 2 (fl lkc lks) := by
  obtain ⟨q, hq, hs⟩ := open_structs (m := 2) (by decide) Tryz.underlying48 Tryz.underlying47 Tryz.underlying3 (by kernel_rfl) (by kernel_rfl) (fun i hi => by
    have : i = 0 ∨ i = 1 := by omega
    rcases this with rfl | rfl <;> exact ⟨_, rfl, rfl, rfl⟩) h
  refine ⟨(List.range n).map fun i => ((q i).getD 0 0, (q i).getD 1 0), ?_⟩
  have e : fl lkc ((List.range n).map fun i => ((q i).getD 0 0, (q i).getD 1 0)) = (List.range n).flatMap fun i => ints .i64 (q i) := by
    unfold fl; rw [List.flatMap_map]; refine flatMap_same (fun i hi => ?_); have h1 := (hq i (List.mem_range.1 hi)).1
    match q i, h1 with
    | [u, v], _ => rfl
  rw [e]; exact hs
theorem shape_cells {fuel : Nat} {cs : List Value} {x : DataW H × List MemPlace} (h : DataW.trod enc Tryz.prog W base (fun _ => true) held fuel 50 cs = some x) :
    ∃ z : Shz, cs = shc z ∧ Sl W z.1.1 z.1.2.1 z.1.2.2 2 (fl lkc z.2.1) := by
  obtain ⟨xs, n, _, _, hl, hxl, hall⟩ := DataW.trod_struct Tryz.underlying50 h; rw [show Program.cellsOf Tryz.prog 50 = 4 by kernel_rfl] at hl; obtain ⟨c0, c1, c2, c3, rfl⟩ := lenn4 hl; have ci : Program.cellsOf Tryz.prog 3 = 1 := by kernel_rfl
  have cl : Program.cellsOf Tryz.prog 48 = 1 := by kernel_rfl
  have h0 := hall 0 _ rfl; have h1 := hall 1 _ rfl; have h2 := hall 2 _ rfl; have h3 := hall 3 _ rfl; have g : ∀ i, i < 4 → ∃ y, xs[i]? = some y := fun i hi => ⟨xs[i]'(by rw [hxl]; exact hi), List.getElem?_eq_getElem _⟩; obtain ⟨y0, hy0⟩ := g 0 (by decide); obtain ⟨y1, hy1⟩ := g 1 (by decide); obtain ⟨y2, hy2⟩ := g 2 (by decide); obtain ⟨y3, hy3⟩ := g 3 (by decide); rw [hy0] at h0; rw [hy1] at h1; rw [hy2] at h2; rw [hy3] at h3
  have h0' : DataW.trod enc Tryz.prog W base (fun _ => true) held n 48 [c0] = some y0 := by
    have e : ([c0, c1, c2, c3].drop 0).take (Program.cellsOf Tryz.prog 48) = [c0] := by rw [cl]; rfl
    rw [← e]; exact h0
  have h1' : DataW.trod enc Tryz.prog W base (fun _ => true) held n 3 [c1] = some y1 := by
    have e : ([c0, c1, c2, c3].drop 1).take (Program.cellsOf Tryz.prog 3) = [c1] := by rw [ci]; rfl
    rw [← e]; exact h1
  have h2' : DataW.trod enc Tryz.prog W base (fun _ => true) held n 3 [c2] = some y2 := by
    have e : ([c0, c1, c2, c3].drop 2).take (Program.cellsOf Tryz.prog 3) = [c2] := by rw [ci]; rfl
    rw [← e]; exact h2
  have h3' : DataW.trod enc Tryz.prog W base (fun _ => true) held n 3 [c3] = some y3 := by
    have e : ([c0, c1, c2, c3].drop 3).take (Program.cellsOf Tryz.prog 3) = [c3] := by rw [ci]; rfl
    rw [← e]; exact h3
  obtain ⟨m1, e1, _, _⟩ := DataW.trod_int Tryz.underlying3 h1'; obtain ⟨m2, e2, _, _⟩ := DataW.trod_int Tryz.underlying3 h2'; obtain ⟨m3, e3, _, _⟩ := DataW.trod_int Tryz.underlying3 h3'; obtain ⟨a, l, p, hc⟩ := Go.Joins.slice_form Tryz.underlying48 h0'; simp only [List.cons.injEq, and_true] at hc e1 e2 e3; subst hc e1 e2 e3; obtain ⟨lks, hs⟩ := open_links h0'; exact ⟨((a, l, p), lks, m1, m2, m3), rfl, hs⟩
theorem open_shapes {fuel : Nat} {a : Option Addr} {n cp : Nat} {x : DataW H × List MemPlace} (h : DataW.trod enc Tryz.prog W base (fun _ => true) held fuel 25 (Value.slice a n cp).cells.toList = some x) :
    ∃ zs, ShR W a n cp zs := by
  rcases DataW.trod_slice Tryz.underlying25 h with ⟨hcs, _⟩ | ⟨ad, len, cap, elems, rest, m, _, hcs, _, hb, hl, hm, hlen, hel, _, _⟩
  · simp [Value.cells] at hcs
    obtain ⟨rfl, rfl, rfl⟩ := hcs; exact ⟨[], Sl.nil _ _, fun z hz => by cases hz⟩
  · simp [Value.cells] at hcs
    obtain ⟨rfl, rfl, rfl⟩ := hcs; have ck : Program.cellsOf Tryz.prog 50 = 4 := by kernel_rfl
    rw [ck] at hel
    have each : ∀ i, i < n → ∃ z : Shz, (∀ j v, (shc z)[j]? = some v → W.cell? (ad.add (i * 4 + j)) = some v) ∧ Sl W z.1.1 z.1.2.1 z.1.2.2 2 (fl lkc z.2.1) := fun i hi => by
      have h1 := hel i hi; rw [List.getElem?_eq_getElem (by omega)] at h1; obtain ⟨cs', hc, ht⟩ := Option.bind_eq_some_iff.1 h1; obtain ⟨z, rfl, hs⟩ := shape_cells ht; refine ⟨z, fun j v hj => ?_, hs⟩; obtain ⟨_, hcl, hcc⟩ := World.cells?_some hc; have hj4 : j < 4 := by simpa [shc] using (List.getElem?_eq_some_iff.1 hj).1
      rw [← hj, ← hcc j hj4, Addr.add_add]
    have hex : ∀ i, ∃ z : Shz, i < n → (∀ j v, (shc z)[j]? = some v → W.cell? (ad.add (i * 4 + j)) = some v) ∧ Sl W z.1.1 z.1.2.1 z.1.2.2 2 (fl lkc z.2.1) := fun i => by
      by_cases hi : i < n
      · obtain ⟨z, h1⟩ := each i hi
        exact ⟨z, fun _ => h1⟩
      · exact ⟨shz0, fun h0 => absurd h0 hi⟩
    obtain ⟨q, hq⟩ := Classical.axiomOfChoice hex
    have e : fl shc ((List.range n).map q) = (List.range n).flatMap fun i => shc (q i) := by
      unfold fl; rw [List.flatMap_map]
    refine ⟨(List.range n).map q, ?_, fun z hz => ?_⟩
    · rw [e]
      refine ⟨flatm_len 4 _ n (fun _ _ => rfl), hl, hm, fun i hi => ?_, fun he => by cases he⟩; have h0 := (hq 0 (by omega)).1 0 _ rfl; rw [Nat.zero_mul, Nat.zero_add, add_zero_addr] at h0; obtain ⟨ea, hlt⟩ := cell_spot h0; refine ⟨ad.block, ad.off, by rw [← ea], hlt, fun j v hj => ?_⟩
      have hjn : j < n * 4 := by
        have := (List.getElem?_eq_some_iff.1 hj).1
        rwa [flatm_len 4 _ n (fun _ _ => rfl)] at this
      have hj2 := flatm_get 4 (fun i => shc (q i)) n (fun _ _ => rfl) (j / 4) (j % 4) (by omega) (by omega); rw [show j / 4 * 4 + j % 4 = j by omega] at hj2; have h1 := (hq (j / 4) (by omega)).1 (j % 4) v (hj2.symm.trans hj); rw [show j / 4 * 4 + j % 4 = j by omega] at h1; rw [ea, mk_add] at h1; exact h1
    · obtain ⟨i, hi, rfl⟩ := List.mem_map.1 hz
      exact (hq i (List.mem_range.1 hi)).2
end
end Go.Proofs.YtilennmeiaehnaaGreat
