/- Frames: what came in, as the walks take it; the witness of a row that lists a variable. | Frames: a row of numbers that came in; a row of structs of numbers. | Frames: a row of shapes that came in. | Frames: a tree that came in. -/
import Derived.ProofKit
import Derived.OpenShut
import Derived.ShutString
import Derived.ChangeOld
import Derived.Below
import Derived.SizedLaws
import Derived.LaidMore
import Derived.LaidLaws
import Derived.Stop.Joined
import Derived.Deep.DeepHandedRow
import Derived.Deep.Matrix
import Derived.Test.YtilennmeiaehnaaGreatCb00
import Derived.Test.YtilennmeiaehnaaGreatRows
import Derived.Deep.Strs
import Derived.Lib.SmallJoins
import Derived.Test.YtilennmeiaehnaaGreatCb06
import Derived.Test.YtilennmeiaehnaaGreatCb17
namespace Tt
open Go Go.RowKit Go.ChangeShapes Go.WideShapes Go.ChangeAt
set_option linter.unusedVariables false

theorem cell_spot {w : World} {a : Addr} {v : Value} (h : w.cell? a = some v) : a = ⟨a.block, a.off, none⟩ ∧ a.block < w.heap.size := by
  refine ⟨?_, World.block_lt_of_cell? w a h⟩; obtain ⟨b, o, s⟩ := a
  cases s with
  | none => rfl
  | some x => simp [World.cell?] at h; split at h <;> simp_all
theorem add_zero_addr (a : Addr) : a.add 0 = a := rfl
theorem mk_add (b o n : Nat) : (⟨b, o, none⟩ : Addr).add n = ⟨b, o + n, none⟩ := by
  unfold Addr.add
  split
  · next h => rw [h, Nat.add_zero]
  · rfl

/-- A row of cells behind an address reads as a slice. -/
theorem Sl.of_cells {w : World} {x : Addr} {n c : Nat} {vs : List Value} (hn : n ≤ c) (hc : c ≤ maxLen) (hl : vs.length = c) (h : ∀ i v, vs[i]? = some v → w.cell? (x.add i) = some v) : Sl w (some x) n c 1 (vs.take n) := by
  refine ⟨by rw [List.length_take]; omega, hn, hc, fun i hi => ?_, fun he => by cases he⟩; have h0 := h 0 _ (List.getElem?_eq_getElem (show 0 < vs.length by omega)); rw [add_zero_addr] at h0; obtain ⟨e, hlt⟩ := cell_spot h0; refine ⟨x.block, x.off, by rw [← e], hlt, fun j v hj => ?_⟩
  have hj' : vs[j]? = some v := by
    rw [List.getElem?_take] at hj
    split at hj
    · exact hj
    · cases hj
  have := h j v hj'; rw [e, mk_add] at this; exact this

theorem Sl.of_ints {w : World} {k : IntKind} {x : Addr} {n c : Nat} {zs : List Int} (hn : n ≤ c) (hc : c ≤ maxLen) (hl : zs.length = c) (h : ∀ i, i < zs.length → w.cell? (x.add i) = some (.int k (zs.getD i 0))) : Sl w (some x) n c 1 (ints k (zs.take n)) := by
  have := Sl.of_cells (vs := ints k zs) hn hc (by rw [ints_len, hl]) (fun i v hv => by
    have hi : i < zs.length := by
      have := (List.getElem?_eq_some_iff.1 hv).1
      rwa [ints_len] at this
    rw [ints_get hi] at hv; rw [h i hi]; exact hv)
  rwa [show (ints k zs).take n = ints k (zs.take n) by simp [ints, List.map_take]] at this
theorem byt_wf {zs : List Int} (h : ∀ n ∈ zs, (Lit.int .u8 n).wf = true) : Byt zs := fun n hn => by
  have := h n hn
  simp [Lit.wf, IntKind.min, IntKind.max, IntKind.signed, IntKind.bits] at this
  omega
/-- A slice of bytes that came in. -/
theorem open_bytes {H : Type} {enc : TypeId × Value → H} {P : Program} {W : World} {t e : TypeId} {base : Nat} {spare : Nat → Bool} {held : Bool} {a : Option Addr} {n c fuel : Nat} {x : DataW H × List MemPlace} (ht : P.underlying t = some (.slice e)) (he : P.underlying e = some (.int .u8)) (hc : P.cellsOf e = 1)
    (h : DataW.trod enc P W base spare held fuel t (Value.slice a n c).cells.toList = some x) (hs : spare = fun _ => true) : ∃ l, Sl W a n c 1 (ints .u8 l) ∧ Byt l := by
  subst hs
  rcases open_ints ht he hc h with ⟨hcs, _⟩ | ⟨y, l, c', zs, hcs, _, hl, hm, hz, _, hcell, hwz⟩
  · simp [Value.cells] at hcs
    obtain ⟨rfl, rfl, rfl⟩ := hcs; exact ⟨[], Sl.nil _ _, fun x hx => by cases hx⟩
  · simp [Value.cells] at hcs
    obtain ⟨rfl, rfl, rfl⟩ := hcs; exact ⟨_, Sl.of_ints hl hm (by simpa using hz) hcell, (byt_wf hwz).take _⟩

section
variable {H : Type} {enc : TypeId × Value → H}
end
end Tt

namespace Tt
open Go Go.RowKit Go.ChangeShapes Go.WideShapes Go.ChangeAt Go.Deep
set_option linter.unusedVariables false

section
variable {H : Type} {enc : TypeId × Value → H} {P : Program} {W : World} {base : Nat} {held : Bool}
/-- a struct of numbers, each in a cell of its own -/
theorem struct_nums {t T : TypeId} {fs : Array Field} {m fuel : Nat} {cs : List Value} {x : DataW H × List MemPlace} (ht : P.underlying t = some (.struct fs)) (hT : P.underlying T = some (.int .i64)) (hc : P.cellsOf T = 1) (hm : P.cellsOf t = m)
    (hf : ∀ i, i < m → ∃ f, fs[i]? = some f ∧ f.offset = i ∧ f.type = T) (h : DataW.trod enc P W base (fun _ => true) held fuel t cs = some x) :
    ∃ zs : List Int, zs.length = m ∧ cs = ints .i64 zs ∧ ∀ z ∈ zs, (Lit.int .i64 z).wf = true := by
  obtain ⟨xs, n, _, _, hl, hxl, hall⟩ := DataW.trod_struct ht h; rw [hm] at hl
  have each : ∀ i, i < m → ∃ z : Int, cs[i]? = some (.int .i64 z) ∧ (Lit.int .i64 z).wf = true := fun i hi => by
    obtain ⟨f, h1, h2, h3⟩ := hf i hi; have h4 := hall i f h1; rw [h2, h3, hc] at h4
    have hil : i < xs.length := by
      rw [hxl]; exact (Array.getElem?_eq_some_iff.1 h1).1
    rw [List.getElem?_eq_getElem hil] at h4; obtain ⟨z, e0, _, hw⟩ := DataW.trod_int hT h4; refine ⟨z, ?_, hw⟩; have h5 : ((cs.drop i).take 1)[0]? = some (.int .i64 z) := by rw [e0]; rfl
    rw [List.getElem?_take, if_pos (by decide), List.getElem?_drop, Nat.add_zero] at h5; exact h5
  have hex : ∀ i, ∃ z : Int, i < m → cs[i]? = some (.int .i64 z) ∧ (Lit.int .i64 z).wf = true := fun i => by
    by_cases hi : i < m
    · obtain ⟨z, hz⟩ := each i hi; exact ⟨z, fun _ => hz⟩
    · exact ⟨0, fun h0 => absurd h0 hi⟩
  obtain ⟨q, hq⟩ := Classical.axiomOfChoice hex; refine ⟨(List.range m).map q, by simp, ?_, ?_⟩
  · apply List.ext_getElem?
    intro i
    by_cases hi : i < m
    · rw [(hq i hi).1]
      simp [ints, hi]
    · rw [List.getElem?_eq_none (by omega), List.getElem?_eq_none (by simp [ints]; omega)]
  · intro z hz
    obtain ⟨i, hi, rfl⟩ := List.mem_map.1 hz; exact (hq i (by simpa using hi)).2
theorem flatm_len (m : Nat) (f : Nat → List Value) (n : Nat) (hf : ∀ i, i < n → (f i).length = m) : ((List.range n).flatMap f).length = n * m := by
  induction n with
  | zero => simp
  | succ n ih =>
    rw [List.range_succ, List.flatMap_append, List.length_append, ih (fun i hi => hf i (by omega))]
    simp [hf n (by omega), Nat.succ_mul]
theorem flatm_get (m : Nat) (f : Nat → List Value) (n : Nat) (hf : ∀ i, i < n → (f i).length = m) (i j : Nat) (hi : i < n) (hj : j < m) : ((List.range n).flatMap f)[i * m + j]? = (f i)[j]? := by
  induction n with
  | zero => omega
  | succ n ih =>
    have hl := flatm_len m f n (fun i hi => hf i (by omega)); rw [List.range_succ, List.flatMap_append]
    by_cases h : i < n
    · have h1 : i * m + j < n * m := by
        have : (i + 1) * m ≤ n * m := Nat.mul_le_mul_right _ (by omega); rw [Nat.succ_mul] at this; omega
      rw [List.getElem?_append_left (by omega)]; exact ih (fun i hi => hf i (by omega)) h
    · obtain rfl : i = n := by omega
      rw [List.getElem?_append_right (by omega), hl]
      simp
/-- a row of structs of numbers -/
theorem open_structs {ts t T : TypeId} {fs : Array Field} {m fuel : Nat} (hm0 : 0 < m) {a : Option Addr} {n c : Nat} {x : DataW H × List MemPlace} (hts : P.underlying ts = some (.slice t)) (ht : P.underlying t = some (.struct fs)) (hT : P.underlying T = some (.int .i64)) (hc : P.cellsOf T = 1) (hm : P.cellsOf t = m)
    (hf : ∀ i, i < m → ∃ f, fs[i]? = some f ∧ f.offset = i ∧ f.type = T) (h : DataW.trod enc P W base (fun _ => true) held fuel ts (Value.slice a n c).cells.toList = some x) :
    ∃ q : Nat → List Int, (∀ i, i < n → (q i).length = m ∧ ∀ z ∈ q i, (Lit.int .i64 z).wf = true) ∧ Sl W a n c m ((List.range n).flatMap fun i => ints .i64 (q i)) := by
  rcases DataW.trod_slice hts h with ⟨hcs, _⟩ | ⟨ad, len, cap, elems, rest, _, _, hcs, _, hb, hl, hmx, hlen, hel, _, _⟩
  · simp [Value.cells] at hcs
    obtain ⟨rfl, rfl, rfl⟩ := hcs; exact ⟨fun _ => [], fun i hi => by omega, Sl.nil _ _⟩
  · simp [Value.cells] at hcs
    obtain ⟨rfl, rfl, rfl⟩ := hcs; rw [hm] at hel
    have each : ∀ i, i < n → ∃ zs : List Int, zs.length = m ∧ (∀ j v, (ints .i64 zs)[j]? = some v → W.cell? (ad.add (i * m + j)) = some v) ∧ ∀ z ∈ zs, (Lit.int .i64 z).wf = true := fun i hi => by
      have h1 := hel i hi; rw [List.getElem?_eq_getElem (by omega)] at h1; obtain ⟨cs', hcc, htr⟩ := Option.bind_eq_some_iff.1 h1; obtain ⟨zs, hzl, rfl, hw⟩ := struct_nums ht hT hc hm hf htr; refine ⟨zs, hzl, fun j v hj => ?_, hw⟩; obtain ⟨_, hcl, hget⟩ := World.cells?_some hcc
      have hjm : j < m := by
        have := (List.getElem?_eq_some_iff.1 hj).1
        rwa [ints_len, hzl] at this
      rw [← hj, ← hget j hjm, Addr.add_add]
    have hex : ∀ i, ∃ zs : List Int, i < n → zs.length = m ∧ (∀ j v, (ints .i64 zs)[j]? = some v → W.cell? (ad.add (i * m + j)) = some v) ∧ ∀ z ∈ zs, (Lit.int .i64 z).wf = true := fun i => by
      by_cases hi : i < n
      · obtain ⟨z, hz⟩ := each i hi; exact ⟨z, fun _ => hz⟩
      · exact ⟨[], fun h0 => absurd h0 hi⟩
    obtain ⟨q, hq⟩ := Classical.axiomOfChoice hex; have hql : ∀ i, i < n → (ints .i64 (q i)).length = m := fun i hi => by rw [ints_len]; exact (hq i hi).1
    refine ⟨q, fun i hi => ⟨(hq i hi).1, (hq i hi).2.2⟩, flatm_len m _ n hql, hl, hmx, fun i hi => ?_, fun he => by cases he⟩; have h00 := (hq 0 (by omega)).2.1 0 _ (List.getElem?_eq_getElem (by rw [hql 0 (by omega)]; exact hm0)); rw [Nat.zero_mul, Nat.zero_add, add_zero_addr] at h00; obtain ⟨e, hlt⟩ := cell_spot h00; refine ⟨ad.block, ad.off, by rw [← e], hlt, fun j v hj => ?_⟩
    have hjn : j < n * m := by
      have := (List.getElem?_eq_some_iff.1 hj).1
      rwa [flatm_len m _ n hql] at this
    have hdm : j / m < n := by rw [Nat.div_lt_iff_lt_mul hm0]; exact hjn
    have hmod : j % m < m := Nat.mod_lt _ hm0; have hj2 := flatm_get m (fun i => ints .i64 (q i)) n hql (j / m) (j % m) hdm hmod; have hdiv : j / m * m + j % m = j := Nat.div_add_mod' j m; rw [hdiv] at hj2; have h1 := (hq (j / m) hdm).2.1 (j % m) v (hj2.symm.trans hj); rw [hdiv, e, mk_add] at h1; exact h1
end
end Tt

namespace Go.Proofs.YtilennmeiaehnaaGreat
open Go.ChangeShapes Go.WideShapes Go.ChangeAt Go.RowKit Go.Deep Tt
set_option linter.unusedVariables false
set_option linter.unusedSimpArgs false

section
variable {H : Type} {enc : TypeId × Value → H} {W : World} {base : Nat} {held : Bool}
theorem lenn4 {α : Type} {l : List α} (h : l.length = 4) : ∃ a b c d, l = [a, b, c, d] := by
  match l, h with
  | [a, b, c, d], _ => exact ⟨a, b, c, d, rfl⟩
theorem flatMap_same {α β : Type} {l : List α} {f g : α → List β} (h : ∀ x ∈ l, f x = g x) : l.flatMap f = l.flatMap g := by
  induction l with
  | nil => rfl
  | cons x r ih => rw [List.flatMap_cons, List.flatMap_cons, h x (by simp), ih (fun y hy => h y (by simp [hy]))]
theorem open_links {fuel : Nat} {a : Option Addr} {n cp : Nat} {x : DataW H × List MemPlace} (h : DataW.trod enc Tryz.prog W base (fun _ => true) held fuel 48 (Value.slice a n cp).cells.toList = some x) :
    ∃ lks : List Lk, Sl W a n cp 2 (fl lkc lks) := by
  obtain ⟨q, hq, hs⟩ := open_structs (m := 2) (by decide) Tryz.underlying48 Tryz.underlying47 Tryz.underlying3 (by kernel_rfl) (by kernel_rfl) (fun i hi => by
    have : i = 0 ∨ i = 1 := by omega
    rcases this with rfl | rfl <;> exact ⟨_, rfl, rfl, rfl⟩) h
  refine ⟨(List.range n).map fun i => ((q i).getD 0 0, (q i).getD 1 0), ?_⟩
  have e : fl lkc ((List.range n).map fun i => ((q i).getD 0 0, (q i).getD 1 0)) = (List.range n).flatMap fun i => ints .i64 (q i) := by
    unfold fl; rw [List.flatMap_map]; refine flatMap_same (fun i hi => ?_); have h1 := (hq i (List.mem_range.1 hi)).1
    match q i, h1 with
    | [u, v], _ => rfl
  rw [e]; exact hs
theorem shape_cells {fuel : Nat} {cs : List Value} {x : DataW H × List MemPlace} (h : DataW.trod enc Tryz.prog W base (fun _ => true) held fuel 50 cs = some x) :
    ∃ z : Shz, cs = shc z ∧ Sl W z.1.1 z.1.2.1 z.1.2.2 2 (fl lkc z.2.1) := by
  obtain ⟨xs, n, _, _, hl, hxl, hall⟩ := DataW.trod_struct Tryz.underlying50 h; rw [show Program.cellsOf Tryz.prog 50 = 4 by kernel_rfl] at hl; obtain ⟨c0, c1, c2, c3, rfl⟩ := lenn4 hl; have ci : Program.cellsOf Tryz.prog 3 = 1 := by kernel_rfl
  have cl : Program.cellsOf Tryz.prog 48 = 1 := by kernel_rfl
  have h0 := hall 0 _ rfl; have h1 := hall 1 _ rfl; have h2 := hall 2 _ rfl; have h3 := hall 3 _ rfl; have g : ∀ i, i < 4 → ∃ y, xs[i]? = some y := fun i hi => ⟨xs[i]'(by rw [hxl]; exact hi), List.getElem?_eq_getElem _⟩; obtain ⟨y0, hy0⟩ := g 0 (by decide); obtain ⟨y1, hy1⟩ := g 1 (by decide); obtain ⟨y2, hy2⟩ := g 2 (by decide); obtain ⟨y3, hy3⟩ := g 3 (by decide); rw [hy0] at h0; rw [hy1] at h1; rw [hy2] at h2; rw [hy3] at h3
  have h0' : DataW.trod enc Tryz.prog W base (fun _ => true) held n 48 [c0] = some y0 := by
    have e : ([c0, c1, c2, c3].drop 0).take (Program.cellsOf Tryz.prog 48) = [c0] := by rw [cl]; rfl
    rw [← e]; exact h0
  have h1' : DataW.trod enc Tryz.prog W base (fun _ => true) held n 3 [c1] = some y1 := by
    have e : ([c0, c1, c2, c3].drop 1).take (Program.cellsOf Tryz.prog 3) = [c1] := by rw [ci]; rfl
    rw [← e]; exact h1
  have h2' : DataW.trod enc Tryz.prog W base (fun _ => true) held n 3 [c2] = some y2 := by
    have e : ([c0, c1, c2, c3].drop 2).take (Program.cellsOf Tryz.prog 3) = [c2] := by rw [ci]; rfl
    rw [← e]; exact h2
  have h3' : DataW.trod enc Tryz.prog W base (fun _ => true) held n 3 [c3] = some y3 := by
    have e : ([c0, c1, c2, c3].drop 3).take (Program.cellsOf Tryz.prog 3) = [c3] := by rw [ci]; rfl
    rw [← e]; exact h3
  obtain ⟨m1, e1, _, _⟩ := DataW.trod_int Tryz.underlying3 h1'; obtain ⟨m2, e2, _, _⟩ := DataW.trod_int Tryz.underlying3 h2'; obtain ⟨m3, e3, _, _⟩ := DataW.trod_int Tryz.underlying3 h3'; obtain ⟨a, l, p, hc⟩ := Go.Joins.slice_form Tryz.underlying48 h0'; simp only [List.cons.injEq, and_true] at hc e1 e2 e3; subst hc e1 e2 e3; obtain ⟨lks, hs⟩ := open_links h0'; exact ⟨((a, l, p), lks, m1, m2, m3), rfl, hs⟩
theorem open_shapes {fuel : Nat} {a : Option Addr} {n cp : Nat} {x : DataW H × List MemPlace} (h : DataW.trod enc Tryz.prog W base (fun _ => true) held fuel 25 (Value.slice a n cp).cells.toList = some x) :
    ∃ zs, ShR W a n cp zs := by
  rcases DataW.trod_slice Tryz.underlying25 h with ⟨hcs, _⟩ | ⟨ad, len, cap, elems, rest, m, _, hcs, _, hb, hl, hm, hlen, hel, _, _⟩
  · simp [Value.cells] at hcs
    obtain ⟨rfl, rfl, rfl⟩ := hcs; exact ⟨[], Sl.nil _ _, fun z hz => by cases hz⟩
  · simp [Value.cells] at hcs
    obtain ⟨rfl, rfl, rfl⟩ := hcs; have ck : Program.cellsOf Tryz.prog 50 = 4 := by kernel_rfl
    rw [ck] at hel
    have each : ∀ i, i < n → ∃ z : Shz, (∀ j v, (shc z)[j]? = some v → W.cell? (ad.add (i * 4 + j)) = some v) ∧ Sl W z.1.1 z.1.2.1 z.1.2.2 2 (fl lkc z.2.1) := fun i hi => by
      have h1 := hel i hi; rw [List.getElem?_eq_getElem (by omega)] at h1; obtain ⟨cs', hc, ht⟩ := Option.bind_eq_some_iff.1 h1; obtain ⟨z, rfl, hs⟩ := shape_cells ht; refine ⟨z, fun j v hj => ?_, hs⟩; obtain ⟨_, hcl, hcc⟩ := World.cells?_some hc; have hj4 : j < 4 := by simpa [shc] using (List.getElem?_eq_some_iff.1 hj).1
      rw [← hj, ← hcc j hj4, Addr.add_add]
    have hex : ∀ i, ∃ z : Shz, i < n → (∀ j v, (shc z)[j]? = some v → W.cell? (ad.add (i * 4 + j)) = some v) ∧ Sl W z.1.1 z.1.2.1 z.1.2.2 2 (fl lkc z.2.1) := fun i => by
      by_cases hi : i < n
      · obtain ⟨z, h1⟩ := each i hi
        exact ⟨z, fun _ => h1⟩
      · exact ⟨shz0, fun h0 => absurd h0 hi⟩
    obtain ⟨q, hq⟩ := Classical.axiomOfChoice hex
    have e : fl shc ((List.range n).map q) = (List.range n).flatMap fun i => shc (q i) := by
      unfold fl; rw [List.flatMap_map]
    refine ⟨(List.range n).map q, ?_, fun z hz => ?_⟩
    · rw [e]
      refine ⟨flatm_len 4 _ n (fun _ _ => rfl), hl, hm, fun i hi => ?_, fun he => by cases he⟩; have h0 := (hq 0 (by omega)).1 0 _ rfl; rw [Nat.zero_mul, Nat.zero_add, add_zero_addr] at h0; obtain ⟨ea, hlt⟩ := cell_spot h0; refine ⟨ad.block, ad.off, by rw [← ea], hlt, fun j v hj => ?_⟩
      have hjn : j < n * 4 := by
        have := (List.getElem?_eq_some_iff.1 hj).1
        rwa [flatm_len 4 _ n (fun _ _ => rfl)] at this
      have hj2 := flatm_get 4 (fun i => shc (q i)) n (fun _ _ => rfl) (j / 4) (j % 4) (by omega) (by omega); rw [show j / 4 * 4 + j % 4 = j by omega] at hj2; have h1 := (hq (j / 4) (by omega)).1 (j % 4) v (hj2.symm.trans hj); rw [show j / 4 * 4 + j % 4 = j by omega] at h1; rw [ea, mk_add] at h1; exact h1
    · obtain ⟨i, hi, rfl⟩ := List.mem_map.1 hz
      exact (hq i (List.mem_range.1 hi)).2
end
end Go.Proofs.YtilennmeiaehnaaGreat

namespace Go.Proofs.YtilennmeiaehnaaGreat
open Go.ChangeShapes Go.WideShapes Go.ChangeAt Go.RowKit Go.Deep Tt
set_option linter.unusedVariables false
set_option linter.unusedSimpArgs false

theorem lift1 {w : World} : ∀ (f : Nat) (d : DirT f) (v : Dz), DirR w f d v → ∃ d' : DirT (f + 1), DirR w (f + 1) d' v ∧ (bytD f d → bytD (f + 1) d') := by
  intro f
  induction f with
  | zero => intro d v h; exact h.elim
  | succ f ih =>
    intro d v h; obtain ⟨ta, tn, tc, zs, sa, sn, sc, ds, ba, bn, bc, hv, htg, hdt, hsl, hdl, hsub, hbl⟩ := h
    have hex : ∀ i, ∃ d' : DirT (f + 1), ∀ (h : i < ds.length) (h' : i < d.2.1.length), DirR w (f + 1) d' ds[i].2 ∧ (bytD f d.2.1[i].2 → bytD (f + 1) d') := fun i => by
      by_cases hi : i < ds.length
      · obtain ⟨d', h1, h2⟩ := ih (d.2.1[i]'(by omega)).2 ds[i].2 (hsub i hi (by omega)).2
        exact ⟨d', fun _ _ => ⟨h1, h2⟩⟩
      · exact ⟨([], [], []), fun h => absurd h hi⟩
    obtain ⟨q, hq⟩ := Classical.axiomOfChoice hex; refine ⟨(d.1, (List.range d.2.1.length).map (fun i => ((d.2.1.getD i (0, dirZ f)).1, q i)), d.2.2), ⟨ta, tn, tc, zs, sa, sn, sc, ds, ba, bn, bc, hv, htg, hdt, hsl, by simpa using hdl, fun i hi hi' => ?_, hbl⟩, fun hb => ?_⟩
    · have h2 : i < d.2.1.length := by omega
      simp only [List.getElem_map, List.getElem_range]; rw [getD_el h2]; exact ⟨(hsub i hi h2).1, (hq i hi h2).1⟩
    · obtain ⟨b1, b2, b3⟩ := hb
      refine ⟨b1, fun s hs => ?_, b3⟩; obtain ⟨i, hi, rfl⟩ := List.mem_map.1 hs; have h2 : i < d.2.1.length := List.mem_range.1 hi; exact (hq i (by omega) h2).2 (b2 _ (List.getElem_mem h2))
theorem liftD {w : World} (f g : Nat) (h : f ≤ g) (d : DirT f) (v : Dz) (hd : DirR w f d v) (hb : bytD f d) : ∃ d' : DirT g, DirR w g d' v ∧ bytD g d' := by
  induction g with
  | zero =>
    obtain rfl : f = 0 := by omega
    exact hd.elim
  | succ g ih =>
    by_cases hg : f ≤ g
    · obtain ⟨d1, h1, h2⟩ := ih hg
      obtain ⟨d2, h3, h4⟩ := lift1 g d1 v h1; exact ⟨d2, h3, h4 h2⟩
    · obtain rfl : f = g + 1 := by omega
      exact ⟨d, hd, hb⟩
section
variable {H : Type} {enc : TypeId × Value → H} {W : World} {base : Nat} {held : Bool}
theorem open_rowg {α : Type} (z0 : α) (k : Nat) (hk : 0 < k) (f : α → List Value) (hf : ∀ x, (f x).length = k) (R : α → Prop) {T E : TypeId} (hT : Program.underlying Tryz.prog T = some (.slice E)) (hc : Program.cellsOf Tryz.prog E = k) {fuel : Nat} {a : Option Addr} {n cp : Nat} {x : DataW H × List MemPlace}
    (h : DataW.trod enc Tryz.prog W base (fun _ => true) held fuel T (Value.slice a n cp).cells.toList = some x) (each : ∀ m, m < fuel → ∀ cs y, DataW.trod enc Tryz.prog W base (fun _ => true) held m E cs = some y → ∃ z, cs = f z ∧ R z) :
    ∃ zs : List α, Sl W a n cp k (fl f zs) ∧ ∀ z ∈ zs, R z := by
  rcases DataW.trod_slice hT h with ⟨hcs, _⟩ | ⟨ad, len, cap, elems, rest, m, hfu, hcs, _, hb, hl, hm, hlen, hel, _, _⟩
  · simp [Value.cells] at hcs
    obtain ⟨rfl, rfl, rfl⟩ := hcs; exact ⟨[], Sl.nil _ _, fun z hz => by cases hz⟩
  · simp [Value.cells] at hcs
    obtain ⟨rfl, rfl, rfl⟩ := hcs; rw [hc] at hel
    have each2 : ∀ i, i < n → ∃ z : α, (∀ j v, (f z)[j]? = some v → W.cell? (ad.add (i * k + j)) = some v) ∧ R z := fun i hi => by
      have h1 := hel i hi; rw [List.getElem?_eq_getElem (by omega)] at h1; obtain ⟨cs', hcc, ht⟩ := Option.bind_eq_some_iff.1 h1; obtain ⟨z, rfl, hs⟩ := each m (by omega) _ _ ht; refine ⟨z, fun j v hj => ?_, hs⟩; obtain ⟨_, hcl, hcc⟩ := World.cells?_some hcc; have hj4 : j < k := by have := (List.getElem?_eq_some_iff.1 hj).1; rwa [hf] at this
      rw [← hj, ← hcc j hj4, Addr.add_add]
    have hex : ∀ i, ∃ z : α, i < n → (∀ j v, (f z)[j]? = some v → W.cell? (ad.add (i * k + j)) = some v) ∧ R z := fun i => by
      by_cases hi : i < n
      · obtain ⟨z, h1⟩ := each2 i hi
        exact ⟨z, fun _ => h1⟩
      · exact ⟨z0, fun h0 => absurd h0 hi⟩
    obtain ⟨q, hq⟩ := Classical.axiomOfChoice hex
    have e : fl f ((List.range n).map q) = (List.range n).flatMap fun i => f (q i) := by
      unfold fl; rw [List.flatMap_map]
    refine ⟨(List.range n).map q, ?_, fun z hz => ?_⟩
    · rw [e]
      refine ⟨flatm_len k _ n (fun _ _ => hf _), hl, hm, fun i hi => ?_, fun he => by cases he⟩; obtain ⟨v0, hv0⟩ : ∃ v0, (f (q 0))[0]? = some v0 := ⟨_, List.getElem?_eq_getElem (by rw [hf]; exact hk)⟩; have h0 := (hq 0 (by omega)).1 0 _ hv0; rw [Nat.zero_mul, Nat.zero_add, add_zero_addr] at h0; obtain ⟨ea, hlt⟩ := cell_spot h0; refine ⟨ad.block, ad.off, by rw [← ea], hlt, fun j v hj => ?_⟩
      have hjn : j < n * k := by
        have := (List.getElem?_eq_some_iff.1 hj).1
        rwa [flatm_len k _ n (fun _ _ => hf _)] at this
      have hdv : j / k * k + j % k = j := by rw [Nat.mul_comm]; exact Nat.div_add_mod j k
      have hjk : j / k < n := (Nat.div_lt_iff_lt_mul hk).2 hjn; have hj2 := flatm_get k (fun i => f (q i)) n (fun _ _ => hf _) (j / k) (j % k) hjk (Nat.mod_lt _ hk); rw [hdv] at hj2; have h1 := (hq (j / k) hjk).1 (j % k) v (hj2.symm.trans hj); rw [hdv] at h1; rw [ea, mk_add] at h1; exact h1
    · obtain ⟨i, hi, rfl⟩ := List.mem_map.1 hz
      exact (hq i (List.mem_range.1 hi)).2
theorem lenn3 {α : Type} {l : List α} (h : l.length = 3) : ∃ a b c, l = [a, b, c] := by
  match l, h with
  | [a, b, c], _ => exact ⟨a, b, c, rfl⟩
theorem valz_cells {fuel : Nat} {cs : List Value} {x : DataW H × List MemPlace} (h : DataW.trod enc Tryz.prog W base (fun _ => true) held fuel 76 cs = some x) :
    ∃ (y c : Int) (a : Option Addr) (n p : Nat) (d : List Int), cs = [.int .i64 y, .int .i64 c, .slice a n p] ∧ Sl W a n p 1 (ints .u8 d) ∧ Byt d := by
  obtain ⟨y0, y1, y2, n, _, hl, h0, h1, h2⟩ := trod_struct3 Tryz.underlying76 h; rw [show Program.cellsOf Tryz.prog 76 = 3 by kernel_rfl] at hl; obtain ⟨c0, c1, c2, rfl⟩ := lenn3 hl; have ci : Program.cellsOf Tryz.prog 3 = 1 := by kernel_rfl
  have cl : Program.cellsOf Tryz.prog 30 = 1 := by kernel_rfl
  have h0' : DataW.trod enc Tryz.prog W base (fun _ => true) held n 3 [c0] = some y0 := by
    have e : ([c0, c1, c2].drop 0).take (Program.cellsOf Tryz.prog 3) = [c0] := by rw [ci]; rfl
    rw [← e]; exact h0
  have h1' : DataW.trod enc Tryz.prog W base (fun _ => true) held n 3 [c1] = some y1 := by
    have e : ([c0, c1, c2].drop 1).take (Program.cellsOf Tryz.prog 3) = [c1] := by rw [ci]; rfl
    rw [← e]; exact h1
  have h2' : DataW.trod enc Tryz.prog W base (fun _ => true) held n 30 [c2] = some y2 := by
    have e : ([c0, c1, c2].drop 2).take (Program.cellsOf Tryz.prog 30) = [c2] := by rw [cl]; rfl
    rw [← e]; exact h2
  obtain ⟨m0, e0, _, _⟩ := DataW.trod_int Tryz.underlying3 h0'; obtain ⟨m1, e1, _, _⟩ := DataW.trod_int Tryz.underlying3 h1'; obtain ⟨a, l, p, hc⟩ := Go.Joins.slice_form Tryz.underlying30 h2'; simp only [List.cons.injEq, and_true] at hc e0 e1; subst hc e0 e1; obtain ⟨d, hs, hb⟩ := open_bytes Tryz.underlying30 Tryz.underlying5 (by kernel_rfl) h2' rfl; exact ⟨m0, m1, a, l, p, d, rfl, hs, hb⟩
theorem tagz_cells {fuel : Nat} {cs : List Value} {x : DataW H × List MemPlace} (h : DataW.trod enc Tryz.prog W base (fun _ => true) held fuel 78 cs = some x) :
    ∃ z : Tz, cs = tzc z ∧ Sl W z.1.2.2.2.1 z.1.2.2.2.2.1 z.1.2.2.2.2.2 1 (ints .u8 z.2) ∧ Byt z.2 := by
  obtain ⟨y0, y1, n, _, hl, h0, h1⟩ := trod_struct2 Tryz.underlying78 h; rw [show Program.cellsOf Tryz.prog 78 = 4 by kernel_rfl] at hl; obtain ⟨c0, c1, c2, c3, rfl⟩ := lenn4 hl; have ci : Program.cellsOf Tryz.prog 3 = 1 := by kernel_rfl
  have cl : Program.cellsOf Tryz.prog 76 = 3 := by kernel_rfl
  have h0' : DataW.trod enc Tryz.prog W base (fun _ => true) held n 3 [c0] = some y0 := by
    have e : ([c0, c1, c2, c3].drop 0).take (Program.cellsOf Tryz.prog 3) = [c0] := by rw [ci]; rfl
    rw [← e]; exact h0
  have h1' : DataW.trod enc Tryz.prog W base (fun _ => true) held n 76 [c1, c2, c3] = some y1 := by
    have e : ([c0, c1, c2, c3].drop 1).take (Program.cellsOf Tryz.prog 76) = [c1, c2, c3] := by rw [cl]; rfl
    rw [← e]; exact h1
  obtain ⟨m0, e0, _, _⟩ := DataW.trod_int Tryz.underlying3 h0'; obtain ⟨y, c, a, l, p, d, hc, hs, hb⟩ := valz_cells h1'; simp only [List.cons.injEq, and_true] at hc e0; obtain ⟨rfl, rfl, rfl⟩ := hc; subst e0; exact ⟨((m0, y, c, a, l, p), d), rfl, hs, hb⟩
/-- a directory, and all within it -/
theorem dir_cells : ∀ (fuel : Nat) (cs : List Value) (x : DataW H × List MemPlace), DataW.trod enc Tryz.prog W base (fun _ => true) held fuel 42 cs = some x → ∃ (d : DirT (fuel + 1)) (v : Dz), cs = [v.1, v.2.1, v.2.2] ∧ DirR W (fuel + 1) d v ∧ bytD (fuel + 1) d := by
  intro fuel
  induction fuel using Nat.strongRecOn with
  | _ fuel ih =>
    intro cs x h; obtain ⟨xs, n, hfu, _, hl, hxl, hall⟩ := DataW.trod_struct Tryz.underlying42 h; rw [show Program.cellsOf Tryz.prog 42 = 3 by kernel_rfl] at hl; obtain ⟨c0, c1, c2, rfl⟩ := lenn3 hl; have h0 := hall 0 _ rfl; have h1 := hall 1 _ rfl; have h2 := hall 2 _ rfl; have g : ∀ i, i < 3 → ∃ y, xs[i]? = some y := fun i hi => ⟨xs[i]'(by rw [hxl]; exact hi), List.getElem?_eq_getElem _⟩; obtain ⟨y0, hy0⟩ := g 0 (by decide); obtain ⟨y1, hy1⟩ := g 1 (by decide); obtain ⟨y2, hy2⟩ := g 2 (by decide); rw [hy0] at h0; rw [hy1] at h1; rw [hy2] at h2; have k0 : Program.cellsOf Tryz.prog 39 = 1 := by kernel_rfl
    have k1 : Program.cellsOf Tryz.prog 40 = 1 := by kernel_rfl
    have k2 : Program.cellsOf Tryz.prog 30 = 1 := by kernel_rfl
    have h0' : DataW.trod enc Tryz.prog W base (fun _ => true) held n 39 [c0] = some y0 := by
      have e : ([c0, c1, c2].drop 0).take (Program.cellsOf Tryz.prog 39) = [c0] := by rw [k0]; rfl
      rw [← e]; exact h0
    have h1' : DataW.trod enc Tryz.prog W base (fun _ => true) held n 40 [c1] = some y1 := by
      have e : ([c0, c1, c2].drop 1).take (Program.cellsOf Tryz.prog 40) = [c1] := by rw [k1]; rfl
      rw [← e]; exact h1
    have h2' : DataW.trod enc Tryz.prog W base (fun _ => true) held n 30 [c2] = some y2 := by
      have e : ([c0, c1, c2].drop 2).take (Program.cellsOf Tryz.prog 30) = [c2] := by rw [k2]; rfl
      rw [← e]; exact h2
    obtain ⟨ta, tn, tc, e0⟩ := Go.Joins.slice_form Tryz.underlying39 h0'; obtain ⟨sa, sn, sc, e1⟩ := Go.Joins.slice_form Tryz.underlying40 h1'; obtain ⟨ba, bn, bc, e2⟩ := Go.Joins.slice_form Tryz.underlying30 h2'; simp only [List.cons.injEq, and_true] at e0 e1 e2; subst e0 e1 e2; obtain ⟨b, hb, hbb⟩ := open_bytes Tryz.underlying30 Tryz.underlying5 (by kernel_rfl) h2' rfl; obtain ⟨zs, hz, hzz⟩ := open_rowg tz0 4 (by decide) tzc tzc_len (fun z => Sl W z.1.2.2.2.1 z.1.2.2.2.2.1 z.1.2.2.2.2.2 1 (ints .u8 z.2) ∧ Byt z.2) Tryz.underlying39 (by kernel_rfl) h0' (fun m _ cs y hc => tagz_cells hc)
    obtain ⟨ss, hs, hss⟩ := open_rowg (0, (.slice none 0 0, .slice none 0 0, .slice none 0 0)) 4 (by decide) sbC sbC_len (fun z => ∃ d : DirT fuel, DirR W fuel d z.2 ∧ bytD fuel d) Tryz.underlying40 (by kernel_rfl) h1' (fun m hm cs y hc => by
      obtain ⟨xs, n2, hf2, _, hl, hxl, hall⟩ := DataW.trod_struct Tryz.underlying44 hc; rw [show Program.cellsOf Tryz.prog 44 = 4 by kernel_rfl] at hl; obtain ⟨c0, c1, c2, c3, rfl⟩ := lenn4 hl; have g0 := hall 0 _ rfl; have g1 := hall 1 _ rfl; have g : ∀ i, i < 2 → ∃ y, xs[i]? = some y := fun i hi => ⟨xs[i]'(by rw [hxl]; exact hi), List.getElem?_eq_getElem _⟩; obtain ⟨u0, hu0⟩ := g 0 (by decide); obtain ⟨u1, hu1⟩ := g 1 (by decide); rw [hu0] at g0; rw [hu1] at g1; have ki : Program.cellsOf Tryz.prog 3 = 1 := by kernel_rfl
      have kd : Program.cellsOf Tryz.prog 42 = 3 := by kernel_rfl
      have g0' : DataW.trod enc Tryz.prog W base (fun _ => true) held n2 3 [c0] = some u0 := by
        have e : ([c0, c1, c2, c3].drop 0).take (Program.cellsOf Tryz.prog 3) = [c0] := by rw [ki]; rfl
        rw [← e]; exact g0
      have g1' : DataW.trod enc Tryz.prog W base (fun _ => true) held n2 42 [c1, c2, c3] = some u1 := by
        have e : ([c0, c1, c2, c3].drop 1).take (Program.cellsOf Tryz.prog 42) = [c1, c2, c3] := by rw [kd]; rfl
        rw [← e]; exact g1
      obtain ⟨m0, e0, _, _⟩ := DataW.trod_int Tryz.underlying3 g0'; simp only [List.cons.injEq, and_true] at e0; subst e0; obtain ⟨d, v, hv, hd, hbd⟩ := ih n2 (by omega) _ _ g1'; obtain ⟨d2, h3, h4⟩ := liftD (n2 + 1) fuel (by omega) d v hd hbd; simp only [List.cons.injEq, and_true] at hv; obtain ⟨rfl, rfl, rfl⟩ := hv; exact ⟨(m0, v), rfl, d2, h3, h4⟩)
    have hex : ∀ i, ∃ d : DirT fuel, ∀ (h : i < ss.length), DirR W fuel d ss[i].2 ∧ bytD fuel d := fun i => by
      by_cases hi : i < ss.length
      · obtain ⟨d, h1⟩ := hss _ (List.getElem_mem hi)
        exact ⟨d, fun _ => h1⟩
      · exact ⟨dirZ fuel, fun h => absurd h hi⟩
    obtain ⟨q, hq⟩ := Classical.axiomOfChoice hex; refine ⟨(zs.map tagz, (List.range ss.length).map (fun i => ((ss.getD i (0, (.slice none 0 0, .slice none 0 0, .slice none 0 0))).1, q i)), b), (.slice ta tn tc, .slice sa sn sc, .slice ba bn bc), rfl, ⟨ta, tn, tc, zs, sa, sn, sc, ss, ba, bn, bc, rfl, ⟨hz, fun z h => (hzz z h).1⟩, rfl, hs, by simp, fun i hi hi' => ?_, hb⟩, ?_, ?_, hbb⟩
    · simp only [List.getElem_map, List.getElem_range]
      rw [getD_el hi]; exact ⟨rfl, (hq i hi).1⟩
    · intro t ht
      obtain ⟨z, hz2, rfl⟩ := List.mem_map.1 ht; exact (hzz z hz2).2
    · intro s hs2
      obtain ⟨i, hi, rfl⟩ := List.mem_map.1 hs2; exact (hq i (List.mem_range.1 hi)).2
/-- the directories of a tree -/
theorem open_dirs {fuel : Nat} {a : Option Addr} {n cp : Nat} {x : DataW H × List MemPlace} (h : DataW.trod enc Tryz.prog W base (fun _ => true) held fuel 22 (Value.slice a n cp).cells.toList = some x) :
    ∀ g, fuel ≤ g → ∃ ds : List (DirT g), DirsR g W a n cp ds ∧ ∀ d ∈ ds, bytD g d := by
  intro g hg
  obtain ⟨dvs, hs, hss⟩ := open_rowg dzz 3 (by decide) dvC dvC_len (fun v => ∃ d : DirT g, DirR W g d v ∧ bytD g d) Tryz.underlying22 (by kernel_rfl) h (fun m hm cs y hc => by
    obtain ⟨d, v, hv, hd, hbd⟩ := dir_cells m cs y hc; obtain ⟨d2, h3, h4⟩ := liftD (m + 1) g (by omega) d v hd hbd; exact ⟨v, hv, d2, h3, h4⟩)
  have hex : ∀ i, ∃ d : DirT g, ∀ (h : i < dvs.length), DirR W g d dvs[i] ∧ bytD g d := fun i => by
    by_cases hi : i < dvs.length
    · obtain ⟨d, h1⟩ := hss _ (List.getElem_mem hi)
      exact ⟨d, fun _ => h1⟩
    · exact ⟨dirZ g, fun h => absurd h hi⟩
  obtain ⟨q, hq⟩ := Classical.axiomOfChoice hex; refine ⟨(List.range dvs.length).map q, ⟨dvs, by simp, hs, fun i hi hi' => ?_⟩, fun d hd => ?_⟩
  · simp only [List.getElem_map, List.getElem_range]
    exact (hq i hi).1
  · obtain ⟨i, hi, rfl⟩ := List.mem_map.1 hd
    exact (hq i (List.mem_range.1 hi)).2
theorem lenn2 {α : Type} {l : List α} (h : l.length = 2) : ∃ a b, l = [a, b] := by
  match l, h with
  | [a, b], _ => exact ⟨a, b, rfl⟩
set_option maxRecDepth 100000 in
theorem open_tree {r : Reach} {v : Value} {d : DataW H} {p : List MemPlace} {b0 : Nat} (hv : Value.okWide Tryz.prog W r b0 24 v) (h : DataW.Trod enc Tryz.prog W base (fun _ => true) held 24 v d p) :
    ∃ (o : Int) (sa : Option Addr) (sn sc F : Nat), v = .agg #[.int .i64 o, .slice sa sn sc] ∧ (Lit.int .i64 o).wf = true ∧ ∀ g, F ≤ g → ∃ ds : List (DirT g), DirsR g W sa sn sc ds ∧ ∀ d ∈ ds, bytD g d := by
  obtain ⟨cs, rfl, hsz⟩ := okWide_struct Tryz.underlying24 hv; obtain ⟨fuel, hf⟩ := h; rw [show (Value.agg cs).cells.toList = cs.toList from rfl] at hf; obtain ⟨y0, y1, n, _, hl, h0, h1⟩ := trod_struct2 Tryz.underlying24 hf; rw [show Program.cellsOf Tryz.prog 24 = 2 by kernel_rfl] at hl; obtain ⟨c0, c1, hcs⟩ := lenn2 hl; rw [hcs] at h0 h1; have ki : Program.cellsOf Tryz.prog 3 = 1 := by kernel_rfl
  have kd : Program.cellsOf Tryz.prog 22 = 1 := by kernel_rfl
  have h0' : DataW.trod enc Tryz.prog W base (fun _ => true) held n 3 [c0] = some y0 := by
    have e : ([c0, c1].drop 0).take (Program.cellsOf Tryz.prog 3) = [c0] := by rw [ki]; rfl
    rw [← e]; exact h0
  have h1' : DataW.trod enc Tryz.prog W base (fun _ => true) held n 22 [c1] = some y1 := by
    have e : ([c0, c1].drop 1).take (Program.cellsOf Tryz.prog 22) = [c1] := by rw [kd]; rfl
    rw [← e]; exact h1
  obtain ⟨m0, e0, _, hw⟩ := DataW.trod_int Tryz.underlying3 h0'; obtain ⟨sa, sn, sc, e1⟩ := Go.Joins.slice_form Tryz.underlying22 h1'; simp only [List.cons.injEq, and_true] at e0 e1; subst e0 e1
  have hcs2 : cs = #[.int .i64 m0, .slice sa sn sc] := by
    apply Array.toList_inj.1
    rw [hcs]
  subst hcs2; exact ⟨m0, sa, sn, sc, n, rfl, hw, fun g hg => open_dirs h1' g hg⟩
end
end Go.Proofs.YtilennmeiaehnaaGreat
