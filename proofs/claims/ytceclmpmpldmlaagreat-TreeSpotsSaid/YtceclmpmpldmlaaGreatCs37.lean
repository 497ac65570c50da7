/- Chapter 21: the law TreeSpots. | Frames: what came in, as the walks take it; the witness of a row that lists a variable. | Frames: a row of numbers that came in; a row of structs of numbers. | Frames: a row of shapes that came in. | Frames: a tree that came in. |  | The tables of what is known: plain. |  |  |  |  |  |  | Rows of tags with what their cells hold: read, owned; each tag's data. | registry: own, at; a row of tags cloned. | registry: where a tag is, or would be, in a row that rises. | registry: a row of tags in memory of its own. | registry: a tag set in a row that rises; dropped. | registry: Set, Drop. | Chapter 23: text, known: the examples' helpers. | Chapter 23: awake: the chapter's examples. | Frames: a directory, an Exif that came in. -/
import Derived.Test.YtceclmpmpldmlaaGreatCs36
import Derived.ProofKit
import Derived.OpenShut
import Derived.ShutString
import Derived.ChangeOld
import Derived.Below
import Derived.SizedLaws
import Derived.LaidMore
import Derived.LaidLaws
import Derived.Stop.Joined
import Derived.Deep.DeepHandedRow
import Derived.Deep.Matrix
import Derived.Test.YtceclmpmpldmlaaGreatCs00
import Derived.Test.YtceclmpmpldmlaaGreatRows
import Derived.Deep.Strs
import Derived.Lib.SmallJoins
import Derived.Test.YtceclmpmpldmlaaGreatCs08
import Derived.Test.YtceclmpmpldmlaaGreatCs21
import Derived.DeepKeys4
import Derived.Maps.Own
import Derived.Maps.OwnOps
import Derived.Deep.RegionLaw
import Derived.Deep.CutRange
import Derived.Deep.Cut
import Derived.BigRegion
import Derived.Lib.SliceRun
import Derived.Deep.QuietTactic
import Derived.BigQuiet
import Derived.Test.YtceclmpmpldmlaaGreatCs05
import Derived.Test.YtceclmpmpldmlaaGreatCs04
import Derived.Deep.RegionWith
import Derived.Test.YtceclmpmpldmlaaGreatCs13
import Derived.LoopN
import Derived.StillTail
import Derived.StillTailTactics
import Derived.Test.YtceclmpmpldmlaaGreatCs03
import Derived.Test.YtceclmpmpldmlaaGreatCs27
import Derived.Test.YtceclmpmpldmlaaGreatCs26
import Derived.Test.YtceclmpmpldmlaaGreatCs10
import Derived.Test.YtceclmpmpldmlaaGreatCs34
import Derived.Test.YtceclmpmpldmlaaGreatCs31
namespace Go.Proofs.YtceclmpmpldmlaaGreat
open Go.RowKit Tt
set_option linter.unusedVariables false

theorem tspots_law (u0 : Dz) (F0 : Nat) (u1 : Dz) (F1 : Nat) (u2 : Dz) (F2 : Nat) (o : Int) (w : World) (h0 : ∀ g, F0 ≤ g → ∃ d : DirT (g + 1), DirR w (g + 1) d u0 ∧ bytD (g + 1) d) (h1 : ∀ g, F1 ≤ g → ∃ d : DirT (g + 1), DirR w (g + 1) d u1 ∧ bytD (g + 1) d) (h2 : ∀ g, F2 ≤ g → ∃ d : DirT (g + 1), DirR w (g + 1) d u2 ∧ bytD (g + 1) d) :
    Calls Tryz.prog 3 #[.agg #[u0.1, u0.2.1, u0.2.2], .agg #[u1.1, u1.2.1, u1.2.2], .agg #[u2.1, u2.2.1, u2.2.2], .int .i64 o] w fun e w' => e = .returned (.bool true) ∧ Below w.heap.size w w' := by
  obtain ⟨d0, r0, b0⟩ := h0 (F0 + F1 + F2) (by omega); obtain ⟨d1, r1, b1⟩ := h1 (F0 + F1 + F2) (by omega); obtain ⟨d2, r2, b2⟩ := h2 (F0 + F1 + F2) (by omega); exact tspots_any (F0 + F1 + F2) d0 d1 d2 u0 u1 u2 o w r0 r1 r2 b0 b1 b2
end Go.Proofs.YtceclmpmpldmlaaGreat

namespace Tt
open Go Go.RowKit Go.ChangeShapes Go.WideShapes Go.ChangeAt
set_option linter.unusedVariables false

theorem cell_spot {w : World} {a : Addr} {v : Value} (h : w.cell? a = some v) : a = ⟨a.block, a.off, none⟩ ∧ a.block < w.heap.size := by
  refine ⟨?_, World.block_lt_of_cell? w a h⟩; obtain ⟨b, o, s⟩ := a
  cases s with
  | none => rfl
  | some x => simp [World.cell?] at h; split at h <;> simp_all
theorem add_zero_addr (a : Addr) : a.add 0 = a := rfl
theorem mk_add (b o n : Nat) : (⟨b, o, none⟩ : Addr).add n = ⟨b, o + n, none⟩ := by
  unfold Addr.add
  split
  · next h => rw [h, Nat.add_zero]
  · rfl

/-- A row of cells behind an address reads as a slice. -/
theorem Sl.of_cells {w : World} {x : Addr} {n c : Nat} {vs : List Value} (hn : n ≤ c) (hc : c ≤ maxLen) (hl : vs.length = c) (h : ∀ i v, vs[i]? = some v → w.cell? (x.add i) = some v) : Sl w (some x) n c 1 (vs.take n) := by
  refine ⟨by rw [List.length_take]; omega, hn, hc, fun i hi => ?_, fun he => by cases he⟩; have h0 := h 0 _ (List.getElem?_eq_getElem (show 0 < vs.length by omega)); rw [add_zero_addr] at h0; obtain ⟨e, hlt⟩ := cell_spot h0; refine ⟨x.block, x.off, by rw [← e], hlt, fun j v hj => ?_⟩
  have hj' : vs[j]? = some v := by
    rw [List.getElem?_take] at hj
    split at hj
    · exact hj
    · cases hj
  have := h j v hj'; rw [e, mk_add] at this; exact this

theorem Sl.of_ints {w : World} {k : IntKind} {x : Addr} {n c : Nat} {zs : List Int} (hn : n ≤ c) (hc : c ≤ maxLen) (hl : zs.length = c) (h : ∀ i, i < zs.length → w.cell? (x.add i) = some (.int k (zs.getD i 0))) : Sl w (some x) n c 1 (ints k (zs.take n)) := by
  have := Sl.of_cells (vs := ints k zs) hn hc (by rw [ints_len, hl]) (fun i v hv => by
    have hi : i < zs.length := by
      have := (List.getElem?_eq_some_iff.1 hv).1
      rwa [ints_len] at this
    rw [ints_get hi] at hv; rw [h i hi]; exact hv)
  rwa [show (ints k zs).take n = ints k (zs.take n) by simp [ints, List.map_take]] at this
theorem byt_wf {zs : List Int} (h : ∀ n ∈ zs, (Lit.int .u8 n).wf = true) : Byt zs := fun n hn => by
  have := h n hn
  simp [Lit.wf, IntKind.min, IntKind.max, IntKind.signed, IntKind.bits] at this
  omega
/-- A slice of bytes that came in. -/
theorem open_bytes {H : Type} {enc : TypeId × Value → H} {P : Program} {W : World} {t e : TypeId} {base : Nat} {spare : Nat → Bool} {held : Bool} {a : Option Addr} {n c fuel : Nat} {x : DataW H × List MemPlace} (ht : P.underlying t = some (.slice e)) (he : P.underlying e = some (.int .u8)) (hc : P.cellsOf e = 1)
    (h : DataW.trod enc P W base spare held fuel t (Value.slice a n c).cells.toList = some x) (hs : spare = fun _ => true) : ∃ l, Sl W a n c 1 (ints .u8 l) ∧ Byt l := by
  subst hs
  rcases open_ints ht he hc h with ⟨hcs, _⟩ | ⟨y, l, c', zs, hcs, _, hl, hm, hz, _, hcell, hwz⟩
  · simp [Value.cells] at hcs
    obtain ⟨rfl, rfl, rfl⟩ := hcs; exact ⟨[], Sl.nil _ _, fun x hx => by cases hx⟩
  · simp [Value.cells] at hcs
    obtain ⟨rfl, rfl, rfl⟩ := hcs; exact ⟨_, Sl.of_ints hl hm (by simpa using hz) hcell, (byt_wf hwz).take _⟩

section
variable {H : Type} {enc : TypeId × Value → H}
end
end Tt

namespace Tt
open Go Go.RowKit Go.ChangeShapes Go.WideShapes Go.ChangeAt Go.Deep
set_option linter.unusedVariables false

section
variable {H : Type} {enc : TypeId × Value → H} {P : Program} {W : World} {base : Nat} {held : Bool}
theorem flatm_len (m : Nat) (f : Nat → List Value) (n : Nat) (hf : ∀ i, i < n → (f i).length = m) : ((List.range n).flatMap f).length = n * m := by
  induction n with
  | zero => simp
  | succ n ih =>
    rw [List.range_succ, List.flatMap_append, List.length_append, ih (fun i hi => hf i (by omega))]
    simp [hf n (by omega), Nat.succ_mul]
theorem flatm_get (m : Nat) (f : Nat → List Value) (n : Nat) (hf : ∀ i, i < n → (f i).length = m) (i j : Nat) (hi : i < n) (hj : j < m) : ((List.range n).flatMap f)[i * m + j]? = (f i)[j]? := by
  induction n with
  | zero => omega
  | succ n ih =>
    have hl := flatm_len m f n (fun i hi => hf i (by omega)); rw [List.range_succ, List.flatMap_append]
    by_cases h : i < n
    · have h1 : i * m + j < n * m := by
        have : (i + 1) * m ≤ n * m := Nat.mul_le_mul_right _ (by omega); rw [Nat.succ_mul] at this; omega
      rw [List.getElem?_append_left (by omega)]; exact ih (fun i hi => hf i (by omega)) h
    · obtain rfl : i = n := by omega
      rw [List.getElem?_append_right (by omega), hl]
      simp
end
end Tt

namespace Go.Proofs.YtceclmpmpldmlaaGreat
open Go.ChangeShapes Go.WideShapes Go.ChangeAt Go.RowKit Go.Deep Tt
set_option linter.unusedVariables false
set_option linter.unusedSimpArgs false

section
variable {H : Type} {enc : TypeId × Value → H} {W : World} {base : Nat} {held : Bool}
theorem lenn4 {α : Type} {l : List α} (h : l.length = 4) : ∃ a b c d, l = [a, b, c, d] := by
  match l, h with
  | [a, b, c, d], _ => exact ⟨a, b, c, d, rfl⟩
end
end Go.Proofs.YtceclmpmpldmlaaGreat

namespace Go.Proofs.YtceclmpmpldmlaaGreat
open Go.ChangeShapes Go.WideShapes Go.ChangeAt Go.RowKit Go.Deep Tt
set_option linter.unusedVariables false
set_option linter.unusedSimpArgs false

theorem lift1 {w : World} : ∀ (f : Nat) (d : DirT f) (v : Dz), DirR w f d v → ∃ d' : DirT (f + 1), DirR w (f + 1) d' v ∧ (bytD f d → bytD (f + 1) d') := by
  intro f
  induction f with
  | zero => intro d v h; exact h.elim
  | succ f ih =>
    intro d v h; obtain ⟨ta, tn, tc, zs, sa, sn, sc, ds, ba, bn, bc, hv, htg, hdt, hsl, hdl, hsub, hbl⟩ := h
    have hex : ∀ i, ∃ d' : DirT (f + 1), ∀ (h : i < ds.length) (h' : i < d.2.1.length), DirR w (f + 1) d' ds[i].2 ∧ (bytD f d.2.1[i].2 → bytD (f + 1) d') := fun i => by
      by_cases hi : i < ds.length
      · obtain ⟨d', h1, h2⟩ := ih (d.2.1[i]'(by omega)).2 ds[i].2 (hsub i hi (by omega)).2
        exact ⟨d', fun _ _ => ⟨h1, h2⟩⟩
      · exact ⟨([], [], []), fun h => absurd h hi⟩
    obtain ⟨q, hq⟩ := Classical.axiomOfChoice hex; refine ⟨(d.1, (List.range d.2.1.length).map (fun i => ((d.2.1.getD i (0, dirZ f)).1, q i)), d.2.2), ⟨ta, tn, tc, zs, sa, sn, sc, ds, ba, bn, bc, hv, htg, hdt, hsl, by simpa using hdl, fun i hi hi' => ?_, hbl⟩, fun hb => ?_⟩
    · have h2 : i < d.2.1.length := by omega
      simp only [List.getElem_map, List.getElem_range]; rw [getD_el h2]; exact ⟨(hsub i hi h2).1, (hq i hi h2).1⟩
    · obtain ⟨b1, b2, b3⟩ := hb
      refine ⟨b1, fun s hs => ?_, b3⟩; obtain ⟨i, hi, rfl⟩ := List.mem_map.1 hs; have h2 : i < d.2.1.length := List.mem_range.1 hi; exact (hq i (by omega) h2).2 (b2 _ (List.getElem_mem h2))
theorem liftD {w : World} (f g : Nat) (h : f ≤ g) (d : DirT f) (v : Dz) (hd : DirR w f d v) (hb : bytD f d) : ∃ d' : DirT g, DirR w g d' v ∧ bytD g d' := by
  induction g with
  | zero =>
    obtain rfl : f = 0 := by omega
    exact hd.elim
  | succ g ih =>
    by_cases hg : f ≤ g
    · obtain ⟨d1, h1, h2⟩ := ih hg
      obtain ⟨d2, h3, h4⟩ := lift1 g d1 v h1; exact ⟨d2, h3, h4 h2⟩
    · obtain rfl : f = g + 1 := by omega
      exact ⟨d, hd, hb⟩
section
variable {H : Type} {enc : TypeId × Value → H} {W : World} {base : Nat} {held : Bool}
theorem open_rowg {α : Type} (z0 : α) (k : Nat) (hk : 0 < k) (f : α → List Value) (hf : ∀ x, (f x).length = k) (R : α → Prop) {T E : TypeId} (hT : Program.underlying Tryz.prog T = some (.slice E)) (hc : Program.cellsOf Tryz.prog E = k) {fuel : Nat} {a : Option Addr} {n cp : Nat} {x : DataW H × List MemPlace}
    (h : DataW.trod enc Tryz.prog W base (fun _ => true) held fuel T (Value.slice a n cp).cells.toList = some x) (each : ∀ m, m < fuel → ∀ cs y, DataW.trod enc Tryz.prog W base (fun _ => true) held m E cs = some y → ∃ z, cs = f z ∧ R z) :
    ∃ zs : List α, Sl W a n cp k (fl f zs) ∧ ∀ z ∈ zs, R z := by
  rcases DataW.trod_slice hT h with ⟨hcs, _⟩ | ⟨ad, len, cap, elems, rest, m, hfu, hcs, _, hb, hl, hm, hlen, hel, _, _⟩
  · simp [Value.cells] at hcs
    obtain ⟨rfl, rfl, rfl⟩ := hcs; exact ⟨[], Sl.nil _ _, fun z hz => by cases hz⟩
  · simp [Value.cells] at hcs
    obtain ⟨rfl, rfl, rfl⟩ := hcs; rw [hc] at hel
    have each2 : ∀ i, i < n → ∃ z : α, (∀ j v, (f z)[j]? = some v → W.cell? (ad.add (i * k + j)) = some v) ∧ R z := fun i hi => by
      have h1 := hel i hi; rw [List.getElem?_eq_getElem (by omega)] at h1; obtain ⟨cs', hcc, ht⟩ := Option.bind_eq_some_iff.1 h1; obtain ⟨z, rfl, hs⟩ := each m (by omega) _ _ ht; refine ⟨z, fun j v hj => ?_, hs⟩; obtain ⟨_, hcl, hcc⟩ := World.cells?_some hcc; have hj4 : j < k := by have := (List.getElem?_eq_some_iff.1 hj).1; rwa [hf] at this
      rw [← hj, ← hcc j hj4, Addr.add_add]
    have hex : ∀ i, ∃ z : α, i < n → (∀ j v, (f z)[j]? = some v → W.cell? (ad.add (i * k + j)) = some v) ∧ R z := fun i => by
      by_cases hi : i < n
      · obtain ⟨z, h1⟩ := each2 i hi
        exact ⟨z, fun _ => h1⟩
      · exact ⟨z0, fun h0 => absurd h0 hi⟩
    obtain ⟨q, hq⟩ := Classical.axiomOfChoice hex
    have e : fl f ((List.range n).map q) = (List.range n).flatMap fun i => f (q i) := by
      unfold fl; rw [List.flatMap_map]
    refine ⟨(List.range n).map q, ?_, fun z hz => ?_⟩
    · rw [e]
      refine ⟨flatm_len k _ n (fun _ _ => hf _), hl, hm, fun i hi => ?_, fun he => by cases he⟩; obtain ⟨v0, hv0⟩ : ∃ v0, (f (q 0))[0]? = some v0 := ⟨_, List.getElem?_eq_getElem (by rw [hf]; exact hk)⟩; have h0 := (hq 0 (by omega)).1 0 _ hv0; rw [Nat.zero_mul, Nat.zero_add, add_zero_addr] at h0; obtain ⟨ea, hlt⟩ := cell_spot h0; refine ⟨ad.block, ad.off, by rw [← ea], hlt, fun j v hj => ?_⟩
      have hjn : j < n * k := by
        have := (List.getElem?_eq_some_iff.1 hj).1
        rwa [flatm_len k _ n (fun _ _ => hf _)] at this
      have hdv : j / k * k + j % k = j := by rw [Nat.mul_comm]; exact Nat.div_add_mod j k
      have hjk : j / k < n := (Nat.div_lt_iff_lt_mul hk).2 hjn; have hj2 := flatm_get k (fun i => f (q i)) n (fun _ _ => hf _) (j / k) (j % k) hjk (Nat.mod_lt _ hk); rw [hdv] at hj2; have h1 := (hq (j / k) hjk).1 (j % k) v (hj2.symm.trans hj); rw [hdv] at h1; rw [ea, mk_add] at h1; exact h1
    · obtain ⟨i, hi, rfl⟩ := List.mem_map.1 hz
      exact (hq i (List.mem_range.1 hi)).2
theorem lenn3 {α : Type} {l : List α} (h : l.length = 3) : ∃ a b c, l = [a, b, c] := by
  match l, h with
  | [a, b, c], _ => exact ⟨a, b, c, rfl⟩
theorem valz_cells {fuel : Nat} {cs : List Value} {x : DataW H × List MemPlace} (h : DataW.trod enc Tryz.prog W base (fun _ => true) held fuel 72 cs = some x) :
    ∃ (y c : Int) (a : Option Addr) (n p : Nat) (d : List Int), cs = [.int .i64 y, .int .i64 c, .slice a n p] ∧ Sl W a n p 1 (ints .u8 d) ∧ Byt d := by
  obtain ⟨y0, y1, y2, n, _, hl, h0, h1, h2⟩ := trod_struct3 Tryz.underlying72 h; rw [show Program.cellsOf Tryz.prog 72 = 3 by kernel_rfl] at hl; obtain ⟨c0, c1, c2, rfl⟩ := lenn3 hl; have ci : Program.cellsOf Tryz.prog 3 = 1 := by kernel_rfl
  have cl : Program.cellsOf Tryz.prog 24 = 1 := by kernel_rfl
  have h0' : DataW.trod enc Tryz.prog W base (fun _ => true) held n 3 [c0] = some y0 := by
    have e : ([c0, c1, c2].drop 0).take (Program.cellsOf Tryz.prog 3) = [c0] := by rw [ci]; rfl
    rw [← e]; exact h0
  have h1' : DataW.trod enc Tryz.prog W base (fun _ => true) held n 3 [c1] = some y1 := by
    have e : ([c0, c1, c2].drop 1).take (Program.cellsOf Tryz.prog 3) = [c1] := by rw [ci]; rfl
    rw [← e]; exact h1
  have h2' : DataW.trod enc Tryz.prog W base (fun _ => true) held n 24 [c2] = some y2 := by
    have e : ([c0, c1, c2].drop 2).take (Program.cellsOf Tryz.prog 24) = [c2] := by rw [cl]; rfl
    rw [← e]; exact h2
  obtain ⟨m0, e0, _, _⟩ := DataW.trod_int Tryz.underlying3 h0'; obtain ⟨m1, e1, _, _⟩ := DataW.trod_int Tryz.underlying3 h1'; obtain ⟨a, l, p, hc⟩ := Go.Joins.slice_form Tryz.underlying24 h2'; simp only [List.cons.injEq, and_true] at hc e0 e1; subst hc e0 e1; obtain ⟨d, hs, hb⟩ := open_bytes Tryz.underlying24 Tryz.underlying5 (by kernel_rfl) h2' rfl; exact ⟨m0, m1, a, l, p, d, rfl, hs, hb⟩
theorem tagz_cells {fuel : Nat} {cs : List Value} {x : DataW H × List MemPlace} (h : DataW.trod enc Tryz.prog W base (fun _ => true) held fuel 74 cs = some x) :
    ∃ z : Tz, cs = tzc z ∧ Sl W z.1.2.2.2.1 z.1.2.2.2.2.1 z.1.2.2.2.2.2 1 (ints .u8 z.2) ∧ Byt z.2 := by
  obtain ⟨y0, y1, n, _, hl, h0, h1⟩ := trod_struct2 Tryz.underlying74 h; rw [show Program.cellsOf Tryz.prog 74 = 4 by kernel_rfl] at hl; obtain ⟨c0, c1, c2, c3, rfl⟩ := lenn4 hl; have ci : Program.cellsOf Tryz.prog 3 = 1 := by kernel_rfl
  have cl : Program.cellsOf Tryz.prog 72 = 3 := by kernel_rfl
  have h0' : DataW.trod enc Tryz.prog W base (fun _ => true) held n 3 [c0] = some y0 := by
    have e : ([c0, c1, c2, c3].drop 0).take (Program.cellsOf Tryz.prog 3) = [c0] := by rw [ci]; rfl
    rw [← e]; exact h0
  have h1' : DataW.trod enc Tryz.prog W base (fun _ => true) held n 72 [c1, c2, c3] = some y1 := by
    have e : ([c0, c1, c2, c3].drop 1).take (Program.cellsOf Tryz.prog 72) = [c1, c2, c3] := by rw [cl]; rfl
    rw [← e]; exact h1
  obtain ⟨m0, e0, _, _⟩ := DataW.trod_int Tryz.underlying3 h0'; obtain ⟨y, c, a, l, p, d, hc, hs, hb⟩ := valz_cells h1'; simp only [List.cons.injEq, and_true] at hc e0; obtain ⟨rfl, rfl, rfl⟩ := hc; subst e0; exact ⟨((m0, y, c, a, l, p), d), rfl, hs, hb⟩
/-- a directory, and all within it -/
theorem dir_cells : ∀ (fuel : Nat) (cs : List Value) (x : DataW H × List MemPlace), DataW.trod enc Tryz.prog W base (fun _ => true) held fuel 26 cs = some x → ∃ (d : DirT (fuel + 1)) (v : Dz), cs = [v.1, v.2.1, v.2.2] ∧ DirR W (fuel + 1) d v ∧ bytD (fuel + 1) d := by
  intro fuel
  induction fuel using Nat.strongRecOn with
  | _ fuel ih =>
    intro cs x h; obtain ⟨xs, n, hfu, _, hl, hxl, hall⟩ := DataW.trod_struct Tryz.underlying26 h; rw [show Program.cellsOf Tryz.prog 26 = 3 by kernel_rfl] at hl; obtain ⟨c0, c1, c2, rfl⟩ := lenn3 hl; have h0 := hall 0 _ rfl; have h1 := hall 1 _ rfl; have h2 := hall 2 _ rfl; have g : ∀ i, i < 3 → ∃ y, xs[i]? = some y := fun i hi => ⟨xs[i]'(by rw [hxl]; exact hi), List.getElem?_eq_getElem _⟩; obtain ⟨y0, hy0⟩ := g 0 (by decide); obtain ⟨y1, hy1⟩ := g 1 (by decide); obtain ⟨y2, hy2⟩ := g 2 (by decide); rw [hy0] at h0; rw [hy1] at h1; rw [hy2] at h2; have k0 : Program.cellsOf Tryz.prog 22 = 1 := by kernel_rfl
    have k1 : Program.cellsOf Tryz.prog 23 = 1 := by kernel_rfl
    have k2 : Program.cellsOf Tryz.prog 24 = 1 := by kernel_rfl
    have h0' : DataW.trod enc Tryz.prog W base (fun _ => true) held n 22 [c0] = some y0 := by
      have e : ([c0, c1, c2].drop 0).take (Program.cellsOf Tryz.prog 22) = [c0] := by rw [k0]; rfl
      rw [← e]; exact h0
    have h1' : DataW.trod enc Tryz.prog W base (fun _ => true) held n 23 [c1] = some y1 := by
      have e : ([c0, c1, c2].drop 1).take (Program.cellsOf Tryz.prog 23) = [c1] := by rw [k1]; rfl
      rw [← e]; exact h1
    have h2' : DataW.trod enc Tryz.prog W base (fun _ => true) held n 24 [c2] = some y2 := by
      have e : ([c0, c1, c2].drop 2).take (Program.cellsOf Tryz.prog 24) = [c2] := by rw [k2]; rfl
      rw [← e]; exact h2
    obtain ⟨ta, tn, tc, e0⟩ := Go.Joins.slice_form Tryz.underlying22 h0'; obtain ⟨sa, sn, sc, e1⟩ := Go.Joins.slice_form Tryz.underlying23 h1'; obtain ⟨ba, bn, bc, e2⟩ := Go.Joins.slice_form Tryz.underlying24 h2'; simp only [List.cons.injEq, and_true] at e0 e1 e2; subst e0 e1 e2; obtain ⟨b, hb, hbb⟩ := open_bytes Tryz.underlying24 Tryz.underlying5 (by kernel_rfl) h2' rfl; obtain ⟨zs, hz, hzz⟩ := open_rowg tz0 4 (by decide) tzc tzc_len (fun z => Sl W z.1.2.2.2.1 z.1.2.2.2.2.1 z.1.2.2.2.2.2 1 (ints .u8 z.2) ∧ Byt z.2) Tryz.underlying22 (by kernel_rfl) h0' (fun m _ cs y hc => tagz_cells hc)
    obtain ⟨ss, hs, hss⟩ := open_rowg (0, (.slice none 0 0, .slice none 0 0, .slice none 0 0)) 4 (by decide) sbC sbC_len (fun z => ∃ d : DirT fuel, DirR W fuel d z.2 ∧ bytD fuel d) Tryz.underlying23 (by kernel_rfl) h1' (fun m hm cs y hc => by
      obtain ⟨xs, n2, hf2, _, hl, hxl, hall⟩ := DataW.trod_struct Tryz.underlying28 hc; rw [show Program.cellsOf Tryz.prog 28 = 4 by kernel_rfl] at hl; obtain ⟨c0, c1, c2, c3, rfl⟩ := lenn4 hl; have g0 := hall 0 _ rfl; have g1 := hall 1 _ rfl; have g : ∀ i, i < 2 → ∃ y, xs[i]? = some y := fun i hi => ⟨xs[i]'(by rw [hxl]; exact hi), List.getElem?_eq_getElem _⟩; obtain ⟨u0, hu0⟩ := g 0 (by decide); obtain ⟨u1, hu1⟩ := g 1 (by decide); rw [hu0] at g0; rw [hu1] at g1; have ki : Program.cellsOf Tryz.prog 3 = 1 := by kernel_rfl
      have kd : Program.cellsOf Tryz.prog 26 = 3 := by kernel_rfl
      have g0' : DataW.trod enc Tryz.prog W base (fun _ => true) held n2 3 [c0] = some u0 := by
        have e : ([c0, c1, c2, c3].drop 0).take (Program.cellsOf Tryz.prog 3) = [c0] := by rw [ki]; rfl
        rw [← e]; exact g0
      have g1' : DataW.trod enc Tryz.prog W base (fun _ => true) held n2 26 [c1, c2, c3] = some u1 := by
        have e : ([c0, c1, c2, c3].drop 1).take (Program.cellsOf Tryz.prog 26) = [c1, c2, c3] := by rw [kd]; rfl
        rw [← e]; exact g1
      obtain ⟨m0, e0, _, _⟩ := DataW.trod_int Tryz.underlying3 g0'; simp only [List.cons.injEq, and_true] at e0; subst e0; obtain ⟨d, v, hv, hd, hbd⟩ := ih n2 (by omega) _ _ g1'; obtain ⟨d2, h3, h4⟩ := liftD (n2 + 1) fuel (by omega) d v hd hbd; simp only [List.cons.injEq, and_true] at hv; obtain ⟨rfl, rfl, rfl⟩ := hv; exact ⟨(m0, v), rfl, d2, h3, h4⟩)
    have hex : ∀ i, ∃ d : DirT fuel, ∀ (h : i < ss.length), DirR W fuel d ss[i].2 ∧ bytD fuel d := fun i => by
      by_cases hi : i < ss.length
      · obtain ⟨d, h1⟩ := hss _ (List.getElem_mem hi)
        exact ⟨d, fun _ => h1⟩
      · exact ⟨dirZ fuel, fun h => absurd h hi⟩
    obtain ⟨q, hq⟩ := Classical.axiomOfChoice hex; refine ⟨(zs.map tagz, (List.range ss.length).map (fun i => ((ss.getD i (0, (.slice none 0 0, .slice none 0 0, .slice none 0 0))).1, q i)), b), (.slice ta tn tc, .slice sa sn sc, .slice ba bn bc), rfl, ⟨ta, tn, tc, zs, sa, sn, sc, ss, ba, bn, bc, rfl, ⟨hz, fun z h => (hzz z h).1⟩, rfl, hs, by simp, fun i hi hi' => ?_, hb⟩, ?_, ?_, hbb⟩
    · simp only [List.getElem_map, List.getElem_range]
      rw [getD_el hi]; exact ⟨rfl, (hq i hi).1⟩
    · intro t ht
      obtain ⟨z, hz2, rfl⟩ := List.mem_map.1 ht; exact (hzz z hz2).2
    · intro s hs2
      obtain ⟨i, hi, rfl⟩ := List.mem_map.1 hs2; exact (hq i (List.mem_range.1 hi)).2
end
end Go.Proofs.YtceclmpmpldmlaaGreat

/- The registry's map of rules. -/
namespace Go.Proofs.YtceclmpmpldmlaaGreat
open Go.RowKit Tt
set_option linter.unusedVariables false
set_option linter.unusedSimpArgs false

/-- what a tag's rule says -/
abbrev GEnt := (Int × Int) × (List Int × Int)
section
variable {w : World} {ops : Array Oper} {rest : List Oper} {o : Oper} {a : Act} {Q : Exit → Act → World → Prop}
end

end Go.Proofs.YtceclmpmpldmlaaGreat

namespace Tt
open Go
def imageT : List (Int × List Int × Int) := [(256, [3, 4], 1), (257, [3, 4], 1), (259, [3], 1), (274, [3], 1), (296, [3], 1), (531, [3], 1), (270, [2], 0), (271, [2], 0), (272, [2], 0), (305, [2], 0), (315, [2], 0), (33432, [2], 0), (306, [2], 20), (282, [5], 1), (283, [5], 1)]
def photoT : List (Int × List Int × Int) := [(33434, [5], 1), (33437, [5], 1), (37378, [5], 1), (37386, [5], 1), (34850, [3], 1), (37383, [3], 1), (37384, [3], 1), (37385, [3], 1), (40961, [3], 1), (41986, [3], 1), (36864, [7], 4), (37121, [7], 4), (40960, [7], 4), (37377, [10], 1), (37380, [10], 1), (36867, [2], 20), (36868, [2], 20), (40962, [3, 4], 1), (40963, [3, 4], 1), (34855, [3], 0), (37510, [7], 0), (37520, [2], 0), (41728, [7], 1), (42016, [2], 33), (42034, [5], 4)]
def gpsT : List (Int × List Int × Int) := [(0, [1], 4), (5, [1], 1), (6, [5], 1), (1, [2], 2), (3, [2], 2), (2, [5], 3), (4, [5], 3), (7, [5], 3), (18, [2], 0), (29, [2], 11)]
def viewT : List (Int × List Int × Int) := [(45056, [7], 4), (45313, [4], 1), (45569, [4], 1), (45570, [4], 1), (45572, [5], 1), (45574, [5], 1), (45573, [10], 1), (45576, [10], 1)]
end Tt

namespace Go.Proofs.YtceclmpmpldmlaaGreat
open Go.RowKit Tt
set_option linter.unusedVariables false

def ents (dir : Int) (ts : List (Int × List Int × Int)) : List GEnt := ts.map fun t => ((dir, t.1), (t.2.1, t.2.2))
end Go.Proofs.YtceclmpmpldmlaaGreat

namespace Go.Proofs.YtceclmpmpldmlaaGreat
open Go.RowKit Tt
set_option linter.unusedVariables false

def interT : List (Int × List Int × Int) := [(1, [2], 4), (2, [7], 4)]
end Go.Proofs.YtceclmpmpldmlaaGreat

/- What is known: plain. -/
namespace Go.Proofs.YtceclmpmpldmlaaGreat
open Go.RowKit Tt
set_option linter.unusedVariables false

def look (T : List (Int × List Int × Int)) (tag : Int) : List Int × Int := match T.find? (fun r => r.1 == tag) with | some r => r.2 | none => ([], -1)
def tab (dir : Int) : List (Int × List Int × Int) :=
  if dir = 0 then imageT else if dir = 1 then imageT else if dir = 2 then photoT else if dir = 3 then gpsT else if dir = 4 then interT else if dir = 5 then viewT else []
def knownS (dir tag : Int) : List Int × Int := look (tab dir) tag
end Go.Proofs.YtceclmpmpldmlaaGreat

namespace Go.Proofs.YtceclmpmpldmlaaGreat
open Go.RowKit Tt
set_option linter.unusedVariables false
attribute [-go_sem] run_eql_struct

def resL : List (Int × Int) := [(0, 34665), (0, 34853), (1, 513), (1, 514), (2, 37500), (2, 40965), (5, 45057), (5, 45058)]
def resS (d t : Int) : Bool := resL.contains (d, t)
end Go.Proofs.YtceclmpmpldmlaaGreat

/- Chapter 23: which tags may be in a directory. -/
namespace Go.Proofs.YtceclmpmpldmlaaGreat
open Go.RowKit Tt
set_option linter.unusedVariables false

/-- whether a tag may be -/
def tmayS (dir tag ty cnt : Int) (d : List Int) : Bool :=
  decide (0 ≤ dir) && decide (dir ≤ 5) && decide (0 ≤ tag) && decide (tag ≤ 65535) && !resS dir tag && mayS ty cnt d &&
    (decide ((knownS dir tag).2 < 0) || ((knownS dir tag).1.contains ty && ((knownS dir tag).2 == 0 || (knownS dir tag).2 == cnt)))
end Go.Proofs.YtceclmpmpldmlaaGreat

/- Chapter 23: rows of tags. -/
namespace Go.Proofs.YtceclmpmpldmlaaGreat
open Go.RowKit Tt
set_option linter.unusedVariables false

abbrev Tg := Int × Int × Int × List Int
end Go.Proofs.YtceclmpmpldmlaaGreat

namespace Go.Proofs.YtceclmpmpldmlaaGreat
open Go.RowKit Tt
set_option linter.unusedVariables false
set_option linter.unusedSimpArgs false

/-- what the cells of a tag hold, and the tag that it is -/
abbrev GTz := (Int × Int × Int × Option Addr × Nat × Nat) × List Int
abbrev gtz0 : GTz := ((0, 0, 0, none, 0, 0), [])
def tag (z : GTz) : Tg := (z.1.1, z.1.2.1, z.1.2.2.1, z.2)
end Go.Proofs.YtceclmpmpldmlaaGreat

namespace Go.Proofs.YtceclmpmpldmlaaGreat
open Go.RowKit Tt
set_option linter.unusedVariables false
set_option linter.unusedSimpArgs false

section
attribute [local go_sem] Lib.run_eql_slice_nil
end
end Go.Proofs.YtceclmpmpldmlaaGreat

namespace Go.Proofs.YtceclmpmpldmlaaGreat
open Go.RowKit Tt
set_option linter.unusedVariables false
set_option linter.unusedSimpArgs false

def key (zs : List GTz) (i : Nat) : Int := (zs.getD i gtz0).1.1
end Go.Proofs.YtceclmpmpldmlaaGreat

namespace Go.Proofs.YtceclmpmpldmlaaGreat
open Go.RowKit Tt
set_option linter.unusedVariables false
set_option linter.unusedSimpArgs false

theorem getD_set_ne {zs : List GTz} {i j : Nat} (h : i ≠ j) (z : GTz) : (zs.set i z).getD j gtz0 = zs.getD j gtz0 := by simp [List.getD_eq_getElem?_getD, List.getElem?_set_ne h]
end Go.Proofs.YtceclmpmpldmlaaGreat

namespace Go.Proofs.YtceclmpmpldmlaaGreat
open Go.RowKit Tt
set_option linter.unusedVariables false
set_option linter.unusedSimpArgs false

end Go.Proofs.YtceclmpmpldmlaaGreat

namespace Go.Proofs.YtceclmpmpldmlaaGreat
open Go.RowKit Tt
set_option linter.unusedVariables false
set_option linter.unusedSimpArgs false

end Go.Proofs.YtceclmpmpldmlaaGreat

namespace Go.Proofs.YtceclmpmpldmlaaGreat
open Go.RowKit Tt
set_option linter.unusedVariables false

def knownB (dir tag count : Int) (types : List Int) : Bool := (max (knownS dir tag).2 0 == count) && (decide (0 ≤ (knownS dir tag).2) == decide (0 < types.length)) && ((knownS dir tag).1 == types)

end Go.Proofs.YtceclmpmpldmlaaGreat

namespace Go.Proofs.YtceclmpmpldmlaaGreat
open Go.RowKit Tt
set_option linter.unusedVariables false

def s1 : ByteArray := ⟨#[50, 48, 50, 48, 58, 48, 49, 58, 48, 50, 32, 48, 51, 58, 48, 52, 58, 48, 53]⟩
def s2 : ByteArray := ⟨#[50, 48, 50, 48, 58, 48, 49, 58, 48, 50, 32, 48, 51, 58, 48, 52, 58, 48]⟩
theorem k1 : knownB 0 274 1 [3] = true := by decide +kernel
theorem k2 : knownB 1 256 1 [3, 4] = true := by decide +kernel
theorem k3 : knownB 3 274 0 [] = true := by decide +kernel
theorem r1 : resS 0 34665 = true := by decide +kernel
theorem r2 : resS 2 34665 = false := by decide +kernel
theorem m1 : tmayS 2 36867 2 20 (strB s1 ++ [0]) = true := by decide +kernel
theorem m2 : tmayS 2 36867 2 19 (strB s2 ++ [0]) = false := by decide +kernel
theorem m3 : tmayS 2 4660 1 1 [1] = true := by decide +kernel
theorem t1 : mayS 2 (s1.size + 1) (strB s1 ++ [0]) = true := by decide +kernel
theorem t2 : mayS 2 (s2.size + 1) (strB s2 ++ [0]) = true := by decide +kernel
end Go.Proofs.YtceclmpmpldmlaaGreat

namespace Go.Proofs.YtceclmpmpldmlaaGreat
open Go.ChangeShapes Go.WideShapes Go.ChangeAt Go.RowKit Go.Deep Tt
set_option linter.unusedVariables false
set_option linter.unusedSimpArgs false

section
variable {H : Type} {enc : TypeId × Value → H} {W : World} {base : Nat} {held : Bool}
set_option maxRecDepth 100000 in
theorem open_dir {r : Reach} {v : Value} {d : DataW H} {p : List MemPlace} {b0 : Nat} (hv : Value.okWide Tryz.prog W r b0 26 v) (h : DataW.Trod enc Tryz.prog W base (fun _ => true) held 26 v d p) :
    ∃ (u : Dz) (F : Nat), v = .agg #[u.1, u.2.1, u.2.2] ∧ ∀ g, F ≤ g → ∃ d : DirT (g + 1), DirR W (g + 1) d u ∧ bytD (g + 1) d := by
  obtain ⟨cs, rfl, hsz⟩ := okWide_struct Tryz.underlying26 hv; obtain ⟨fuel, hf⟩ := h; rw [show (Value.agg cs).cells.toList = cs.toList from rfl] at hf; obtain ⟨d1, u, hc, hd, hb⟩ := dir_cells fuel _ _ hf; refine ⟨u, fuel, ?_, fun g hg => liftD (fuel + 1) (g + 1) (by omega) d1 u hd hb⟩
  congr 1
  apply Array.toList_inj.1
  rw [hc]
end
end Go.Proofs.YtceclmpmpldmlaaGreat
