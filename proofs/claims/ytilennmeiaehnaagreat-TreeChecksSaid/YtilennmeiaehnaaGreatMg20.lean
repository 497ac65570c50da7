/- Bytes of one's own (chapter 1); a tag among a shape's links, one of its own (chapter 21): the document. | Chapter 21: has a directory a shape; the chain of shapes; check: plain. | copy, append of zeros, overlaps: of elements of more cells. | Boxes: a few blocks laid one behind the other: of whatever program. -/
import Derived.Test.YtilennmeiaehnaaGreatMg03
import Derived.Test.YtilennmeiaehnaaGreatMg04
import Derived.Test.YtilennmeiaehnaaGreatMg00
import Derived.Test.YtilennmeiaehnaaGreatMg06
import Derived.Test.YtilennmeiaehnaaGreatMg09
import Derived.Test.YtilennmeiaehnaaGreatMg19
import Derived.Test.YtilennmeiaehnaaGreatMg12
import Derived.Test.YtilennmeiaehnaaGreatMg02
import Derived.Laws.CopyOwn
import Derived.Lib.SliceRun
import Derived.Lib.AppendZeros
import Derived.Lib.AppendZerosOnto
import Derived.Lib.Overlaps
import Derived.Deep.RegionLaw
import Derived.Test.YtilennmeiaehnaaGreatMg01
namespace Go.Proofs.YtilennmeiaehnaaGreat
open Go.RowKit Tt
set_option linter.unusedVariables false
set_option linter.unusedSimpArgs false
theorem infoB : (Tryz.prog.info? 5).map (fun i => (i.zero, i.size, i.bytes)) = some (some (.int .u8 0), 1, 1) := by kernel_rfl
set_option maxHeartbeats 400000 in
theorem own01_any (a : Option Addr) (n c : Nat) (x : List Int) (w : World) (hx : Sl w a n c 1 (ints .u8 x)) (hn : n ≤ 140737488355328) :
    Calls Tryz.prog 35 #[.slice a n c] w fun e w' => ∃ a' c', e = .returned (.slice a' n c') ∧ w'.ownsRow w.heap.size 5 1 (.slice a' n c') n (ints .u8 x) ∧ Below w.heap.size w w' := by
  obtain ⟨i0, hi, hz0, hz1, hz2⟩ := info_parts infoB
  go_enter Tryz.func35, Tryz.ntmps35
  go_wp2_with (at_builtin; refine wpList_app rfl _ _ 30 rfl w.heap.size 5 i0 _ 1 1 Tryz.underlying30 hi hz0 hz1 hz2 rfl (by decide) _ 0 [] rfl (own_new w w.heap.size 5 1 0 #[] (Nat.le_refl _) (by unfold maxLen; omega) rfl) a n c _ rfl (sl_alloc hx _) ints_one (by omega) (by decide) (by simp) ?_; intro a' c' w1 hown hbel hgrow)
  rw [Nat.zero_add, List.nil_append] at hown
  clear hgrow
  go_wp2
  go_ret
  exact ⟨a', c', ret_eq rfl, hown, ((Below.refl _ _).alloc (Nat.le_refl _) _).trans hbel⟩
set_option maxHeartbeats 2000000 in
theorem link_any (la : Option Addr) (ln lc : Nat) (lks : List Lk) (sat slong snx tag : Int) (w : World) (hl : Sl w la ln lc 2 (fl lkc lks)) :
    Calls Tryz.prog 92 #[.agg #[.slice la ln lc, .int .i64 sat, .int .i64 slong, .int .i64 snx], .int .i64 tag] w fun e w' => e = .returned (.int .i64 (fst (fun y => y.1 == tag) lks)) ∧ Below w.heap.size w w' := by
  have hlen := hl.flen lkc_len (by decide)
  have hmx := hl.max
  have hle := hl.le
  have hb0 := (Below.refl w.heap.size w).alloc (Nat.le_refl _) (.cells #[.slice la ln lc, .int .i64 sat, .int .i64 slong, .int .i64 snx] 50)
  have b0 := Blk.new w 50 #[.slice la ln lc, .int .i64 sat, .int .i64 slong, .int .i64 snx]
  obtain ⟨w1, hw1⟩ : ∃ W, w.alloc (.cells #[.slice la ln lc, .int .i64 sat, .int .i64 slong, .int .i64 snx] 50) = W := ⟨_, rfl⟩
  rw [hw1] at hb0 b0
  obtain ⟨gs, hgs⟩ : ∃ g, w.heap.size = g := ⟨_, rfl⟩
  rw [hgs] at b0
  have hl1 := hl.mono hb0
  have hl' := Lib.hid hl
  have hb0' := Lib.hid hb0
  have hl1' := Lib.hid hl1
  have b0' := Lib.hid b0
  have hlen' := Lib.hid hlen
  clear hl hb0 hl1 b0 hlen
  go_enter Tryz.func92, Tryz.ntmps92
  go_upto_region 1 with fail
  try rw [hw1]
  try rw [hgs]
  clear hw1
  go_wp2_with fail
  go_loopw [5] (fun i wr => ∃ (k : Nat), k ≤ ln ∧ i = .int .i64 k ∧ Hid (∀ j, j < k → ((lks.getD j (0, 0)).1 == tag) = false) ∧ Hid (Below w1.heap.size w1 wr)) (fun i _ => ln - (intOf i).toNat)
  case atStart => exact ⟨0, by omega, rfl, Lib.hid (fun j hj => by omega), Lib.hid (Below.refl _ _)⟩
  case round =>
    obtain ⟨k, hk, rfl, hno, hb⟩ := hrel
    have br := b0'.out.late hb.out
    have c0 : wr.cell? ⟨gs, 0, none⟩ = some (.slice la ln lc) := br.cell rfl
    by_cases hlt : k < ln
    · have hlti : (k : Int) < ln := by omega
      obtain ⟨bb, oo, rfl, hbb, fe⟩ := (hl1'.out.mono hb.out).elem lkc_len (by decide) (0, 0) hlt
      have f0 := fe 0 _ rfl
      rw [Nat.add_zero] at f0
      obtain ⟨x, hx⟩ : ∃ x, lks.getD k (0, 0) = x := ⟨_, rfl⟩
      rw [hx] at f0
      clear fe
      have br' := Lib.hid br
      have hx' := Lib.hid hx
      clear br hx
      cases hxt : (x.1 == tag) with
      | true =>
        have hf : fst (fun y => y.1 == tag) lks = k := fst_at (by rw [hlen'.out]; exact hlt) (by rw [← getD_el (d := (0, 0)) (by rw [hlen'.out]; exact hlt), hx'.out]; exact hxt) (fun i hi => by rw [← getD_el (d := (0, 0)) (by rw [hlen'.out]; omega)]; exact hno.out i hi)
        have hf' := Lib.hid hf
        clear hf
        go_wp2_with fail
        go_ret
        exact ⟨by rw [hf'.out]; rfl, hb0'.out.trans (hb.out.mono hb0'.out.size)⟩
      | false =>
        go_wp2_with fail
        go_roundw
        case rel => exact ⟨k + 1, by omega, by go_num, Lib.hid (fun j hj => by
          by_cases hjk : j = k
          · subst hjk; rw [hx'.out]; exact hxt
          · exact hno.out j (by omega)), hb⟩
        case measure => simp [intOf]; omega
    · obtain rfl : k = ln := by omega
      have hf : fst (fun y => y.1 == tag) lks = -1 := fst_no (fun j hj => by rw [← getD_el (d := (0, 0)) hj]; exact hno.out j (by rw [hlen'.out] at hj; exact hj))
      have hf' := Lib.hid hf
      have br' := Lib.hid br
      clear hf br
      go_wp2_with fail
      go_ret
      exact ⟨by rw [hf'.out]; rfl, hb0'.out.trans (hb.out.mono hb0'.out.size)⟩
def ownD (lks : List Lk) (sat slong tag : Int) : Bool := decide (0 ≤ fst (fun y => y.1 == tag) lks) || (sat != 0 && (tag == sat || tag == slong))
set_option maxHeartbeats 2000000 in
theorem own_any (la : Option Addr) (ln lc : Nat) (lks : List Lk) (sat slong snx tag : Int) (w : World) (hl : Sl w la ln lc 2 (fl lkc lks)) :
    Calls Tryz.prog 98 #[.agg #[.slice la ln lc, .int .i64 sat, .int .i64 slong, .int .i64 snx], .int .i64 tag] w fun e w' => e = .returned (.bool (ownD lks sat slong tag)) ∧ Below w.heap.size w w' := by
  have hb0 := (Below.refl w.heap.size w).alloc (Nat.le_refl _) (.cells #[.slice la ln lc, .int .i64 sat, .int .i64 slong, .int .i64 snx] 50)
  have b0 := Blk.new w 50 #[.slice la ln lc, .int .i64 sat, .int .i64 slong, .int .i64 snx]
  obtain ⟨w1, hw1⟩ : ∃ W, w.alloc (.cells #[.slice la ln lc, .int .i64 sat, .int .i64 slong, .int .i64 snx] 50) = W := ⟨_, rfl⟩
  rw [hw1] at hb0 b0
  obtain ⟨gs, hgs⟩ : ∃ g, w.heap.size = g := ⟨_, rfl⟩
  rw [hgs] at b0
  have HL := link_any la ln lc lks sat slong snx tag w1 (hl.mono hb0)
  unfold ownD
  generalize fst (fun (y : Lk) => y.1 == tag) lks = k at *
  obtain ⟨p, hp⟩ : ∃ p, decide (0 ≤ k) = p := ⟨_, rfl⟩
  obtain ⟨q, hq⟩ : ∃ q, (sat != 0) = q := ⟨_, rfl⟩
  obtain ⟨r, hr⟩ : ∃ r, (tag == sat) = r := ⟨_, rfl⟩
  obtain ⟨u, hu⟩ : ∃ u, (tag == slong) = u := ⟨_, rfl⟩
  rw [hp, hq, hr, hu]
  have c0 : w1.cell? ⟨gs, 0, none⟩ = some (.slice la ln lc) := b0.cell rfl
  have c1 : w1.cell? ⟨gs, 1, none⟩ = some (.int .i64 sat) := b0.cell rfl
  have c2 : w1.cell? ⟨gs, 2, none⟩ = some (.int .i64 slong) := b0.cell rfl
  have c3 : w1.cell? ⟨gs, 3, none⟩ = some (.int .i64 snx) := b0.cell rfl
  have hl' := Lib.hid hl
  have hb0' := Lib.hid hb0
  have HL' := Lib.hid HL
  have b0' := Lib.hid b0
  clear hl hb0 HL b0
  go_enter Tryz.func98, Tryz.ntmps98
  go_upto_region 1 with fail
  try rw [hw1]
  try rw [hgs]
  clear hw1
  go_wp2_with fail
  refine HL'.out.mono ?_
  rintro e w2 ⟨rfl, hb2⟩
  have b2 := b0'.out.late hb2
  have d1 : w2.cell? ⟨gs, 1, none⟩ = some (.int .i64 sat) := b2.cell rfl
  have d2 : w2.cell? ⟨gs, 2, none⟩ = some (.int .i64 slong) := b2.cell rfl
  clear c0 c1 c2 c3 b0'
  have b2' := Lib.hid b2
  have hb2' := Lib.hid hb2
  clear b2 hb2
  cases p <;> cases q <;> cases r <;> cases u
  all_goals
    go_wp2_with fail
    go_ret
    exact ⟨rfl, hb0'.out.trans (hb2'.out.mono hb0'.out.size)⟩
end Go.Proofs.YtilennmeiaehnaaGreat

namespace Go.Proofs.YtilennmeiaehnaaGreat
open Go.RowKit Tt
set_option linter.unusedVariables false
set_option linter.unusedSimpArgs false

theorem rng_no {n k : Nat} {p : Nat → Bool} (hk : k < n) (h : p k = false) : (List.range n).all p = false := by
  cases hh : (List.range n).all p with
  | false => rfl
  | true => rw [List.all_eq_true.1 hh k (List.mem_range.2 hk)] at h; exact absurd h (by decide)
theorem rng_yes {n : Nat} {p : Nat → Bool} (h : ∀ k, k < n → p k = true) : (List.range n).all p = true := List.all_eq_true.2 fun k hk => h k (List.mem_range.1 hk)
def tg0 : Tgs := (0, 0, 0, [])
def dirZ : (f : Nat) → DirT f
  | 0 => ()
  | _ + 1 => ([], [], [])
def tgB (s : Shp) (ts : List Tgs) (k : Nat) : Bool :=
  tagB (ts.getD k tg0).1 && (decide (k = 0) || decide ((ts.getD (k - 1) tg0).1 < (ts.getD k tg0).1)) && !ownP s (ts.getD k tg0).1 && okT (ts.getD k tg0)
/-- the shape that a link of a shape leads to -/
def subI (s : Shp) (t : Int) : Int := (s.1.getD (fst (fun y => y.1 == t) s.1).toNat (0, 0)).2
def sbB {f : Nat} (has : DirT f → Int → Bool) (s : Shp) (ss : List (Int × DirT f)) (k : Nat) : Bool :=
  linkP s (ss.getD k (0, dirZ f)).1 && (decide (k = 0) || decide ((ss.getD (k - 1) (0, dirZ f)).1 < (ss.getD k (0, dirZ f)).1)) && has (ss.getD k (0, dirZ f)).2 (subI s (ss.getD k (0, dirZ f)).1)
def ownB (s : Shp) (d : List Tgs) : Bool := (List.range d.length).all (tgB s d)
def hasH (s : Shp) (e b : Nat) : Bool := decide (1 ≤ e) && decide (e ≤ 65535) && (decide (b = 0) || !decide (s.2.1 = 0))
def hasS (L : List Shp) : (f : Nat) → DirT f → Int → Bool
  | 0, _, _ => false
  | f + 1, d, i => hasH (L.getD i.toNat shp0) (entN d.1.length d.2.1.length d.2.2.length) d.2.2.length && ownB (L.getD i.toNat shp0) d.1 &&
      (List.range d.2.1.length).all (sbB (hasS L f) (L.getD i.toNat shp0) d.2.1)
theorem hasS_succ (L : List Shp) (f : Nat) (d : DirT (f + 1)) (i : Int) : hasS L (f + 1) d i =
    (hasH (L.getD i.toNat shp0) (entN d.1.length d.2.1.length d.2.2.length) d.2.2.length && ownB (L.getD i.toNat shp0) d.1 && (List.range d.2.1.length).all (sbB (hasS L f) (L.getD i.toNat shp0) d.2.1)) := rfl
/-- the shapes of the chain -/
def nxtS (L : List Shp) : Nat → Int
  | 0 => 0
  | k + 1 => (L.getD (nxtS L k).toNat shp0).2.2.2
def chainB (L : List Shp) (n : Nat) : Bool := (List.range n).all fun k => decide (0 ≤ nxtS L k)
def hasAll (L : List Shp) (f : Nat) (ds : List (DirT f)) : Bool := (List.range ds.length).all fun k => hasS L f (ds.getD k (dirZ f)) (nxtS L k)
def checkS (f : Nat) (o : Int) (ds : List (DirT f)) (L : List Shp) : Int :=
  if (shapesB L && (decide (o = 1) || decide (o = 2)) && !decide (ds.length = 0)) = true then
    if chainB L ds.length = true then
      if hasAll L f ds = true then (if longT f ds = 0 then 7 else 0) else 6
    else 1
  else 1
theorem shapesB_get {L : List Shp} (h : shapesB L = true) {i : Nat} (hi : i < L.length) : shapeB L.length i (L.getD i shp0) = true := by
  unfold shapesB at h
  simp only [Bool.and_eq_true] at h
  exact List.all_eq_true.1 h.2 i (List.mem_range.2 hi)
theorem shapesB_len {L : List Shp} (h : shapesB L = true) : 1 ≤ L.length ∧ L.length ≤ 16 := by
  unfold shapesB at h
  simp only [Bool.and_eq_true, decide_eq_true_eq] at h
  exact h.1
theorem shapeB_next {n i : Nat} {s : Shp} (h : shapeB n i s = true) : s.2.2.2 = -1 ∨ ((i : Int) < s.2.2.2 ∧ s.2.2.2 < n) := by
  unfold shapeB nextB lateB at h
  simp only [Bool.and_eq_true, Bool.or_eq_true, decide_eq_true_eq] at h
  exact h.1.2
theorem shapeB_lk {n i k : Nat} {s : Shp} (h : shapeB n i s = true) (hk : k < s.1.length) : linkB n i s k = true := by
  unfold shapeB at h
  simp only [Bool.and_eq_true] at h
  exact List.all_eq_true.1 h.1.1 k (List.mem_range.2 hk)
theorem linkB_late {n i k : Nat} {s : Shp} (h : linkB n i s k = true) : (i : Int) < (s.1.getD k (0, 0)).2 ∧ (s.1.getD k (0, 0)).2 < n := by
  unfold linkB lateB at h
  simp only [Bool.and_eq_true, decide_eq_true_eq] at h
  exact h.1.2
theorem shapeB_pair {n i : Nat} {s : Shp} (h : shapeB n i s = true) : (s.2.1 = 0 ∧ s.2.2.1 = 0) ∨ (1 ≤ s.2.1 ∧ s.2.1 < s.2.2.1 ∧ s.2.2.1 < 65536) := by
  unfold shapeB blobB tagB at h
  simp only [Bool.and_eq_true, Bool.or_eq_true, decide_eq_true_eq] at h
  omega
theorem nxt_lt {L : List Shp} (h : shapesB L = true) : ∀ k, nxtS L k < L.length ∧ -1 ≤ nxtS L k := by
  have hl := shapesB_len h
  intro k
  induction k with
  | zero => unfold nxtS; omega
  | succ k ih =>
    unfold nxtS
    have := shapeB_next (shapesB_get h (i := (nxtS L k).toNat) (by omega))
    omega
theorem chainB_step {L : List Shp} {n : Nat} : chainB L (n + 1) = (chainB L n && decide (0 ≤ nxtS L n)) := by
  unfold chainB
  rw [List.range_succ, List.all_append]
  simp
theorem chainB_no {L : List Shp} {n k : Nat} (hk : k < n) (h : nxtS L k < 0) : chainB L n = false := rng_no hk (by simp; omega)
theorem fst_bounds {α : Type} {p : α → Bool} {l : List α} : -1 ≤ fst p l ∧ fst p l < l.length := by
  unfold fst
  cases h : l.findIdx? p with
  | none => simp; omega
  | some i =>
    simp only
    have := List.findIdx?_eq_some_iff_getElem.1 h
    obtain ⟨h1, _⟩ := this
    omega
theorem subI_ok {L : List Shp} {i : Nat} {t : Int} (h : shapesB L = true) (hi : i < L.length) (hl : linkP (L.getD i shp0) t = true) : (i : Int) < subI (L.getD i shp0) t ∧ subI (L.getD i shp0) t < L.length := by
  have hs := shapesB_get h hi
  have hb := fst_bounds (p := fun (y : Lk) => y.1 == t) (l := (L.getD i shp0).1)
  have ha := fst_any (p := fun (y : Lk) => y.1 == t) (l := (L.getD i shp0).1)
  unfold linkP at hl
  rw [hl, decide_eq_true_eq] at ha
  have := linkB_late (shapeB_lk hs (k := (fst (fun (y : Lk) => y.1 == t) (L.getD i shp0).1).toNat) (by omega))
  exact this
theorem ownP_prog {n i : Nat} {s : Shp} (h : shapeB n i s = true) (t : Int) : ((decide (0 < s.2.1) && (t == s.2.1 || t == s.2.2.1)) || s.1.any fun y => y.1 == t) = ownP s t := by
  unfold ownP linkP pairP
  rw [Bool.or_comm]
  congr 1
theorem ownD_ok {n i : Nat} {s : Shp} (h : shapeB n i s = true) (t : Int) : ownD s.1 s.2.1 s.2.2.1 t = ownP s t := by
  unfold ownD ownP linkP pairP
  rw [fst_any]
  congr 1
  have := shapeB_pair h
  have e : (s.2.1 != 0) = decide (0 < s.2.1) := by
    rw [Bool.eq_iff_iff]; simp; omega
  rw [e]
  congr 1
end Go.Proofs.YtilennmeiaehnaaGreat

namespace Tt
open Go Go.RowKit
set_option linter.unusedVariables false
set_option linter.unusedSimpArgs false

section
variable {P : Program}
theorem run_copy_sz (w : World) (dT sT ty elem : TypeId) (sz g o dLen dCap : Nat) (a : Addr) (sLen sCap : Nat) (cur : Array Value) (t : TypeId) (cs : List Value)
    (hu : P.underlying dT = some (.slice elem)) (hs : (P.info? elem).map (·.size) = some sz)
    (hg : w.heap[g]? = some (.cells cur t (0, 0))) (hn : cs.length = Nat.min sLen dLen * sz)
    (hsrc : ∀ j v, cs[j]? = some v → w.cell? (a.add j) = some v) (hfit : o + cs.length ≤ cur.size) (h1 : ∀ v ∈ cs, v.oneCell' = true) :
    (Builtin.copy_ #[dT, sT] ty #[.slice (some ⟨g, o, none⟩) dLen dCap, .slice (some a) sLen sCap]).run P w =
      .ok (goInt (Nat.min sLen dLen : Nat)) (w.setRow g (splice cur.toList o cs).toArray) := by
  have hl := run_loadCells_list (P := P) w a cs hsrc
  have hst := run_storeCells_at P g o t cs 0 cur w hg (by simpa using hfit) h1
  rw [hn] at hl
  cases hq : P.info? elem with
  | none => simp [hq] at hs
  | some i =>
    have hi : i.size = sz := by simpa [hq] using hs
    simp only [Nat.min_def] at hl hn ⊢
    simp [Builtin.copy_, run_underlying hu, Builtin.lenOf, Builtin.firstCells, Go.sizeOf, typeInfo, hq, hi, hl, hst, Nat.min_def, splice]
theorem wp_copy_run (w : World) {o : Oper} {a : Act} {K : Act → World → Prop} {Q : Exit → Act → World → Prop} (d s : Operand) (t t' : TypeId)
    (ho : o.op = .call { callee := .builtin .copy, args := #[d, s], argTypes := #[t, t'] }) (v u : Value) (hd : a.eval d = v) (hs : a.eval s = u) {v' : Value} {w' : World}
    (hr : (Builtin.copy_ #[t, t'] o.type #[v, u]).run P w = .ok v' w') (h : K (a.put o.dst v') w') : o.wp P a w K Q := by
  unfold Oper.wp execOp
  simp only [ho, resolve, invoke, builtin, Sem.run_bind, Sem.run_pure, Result.andThen_ok, List.map_toArray, List.map_cons, List.map_nil, hd, hs, hr]
  exact h
theorem wpList_copy_run (w : World) {ops : Array Oper} {rest : List Oper} {o : Oper} {a : Act} {Q : Exit → Act → World → Prop} (hgd : o.guard = none) (d s : Operand) (t t' : TypeId)
    (ho : o.op = .call { callee := .builtin .copy, args := #[d, s], argTypes := #[t, t'] }) (v u : Value) (hd : a.eval d = v) (hs : a.eval s = u) {v' : Value} {w' : World}
    (hr : (Builtin.copy_ #[t, t'] o.type #[v, u]).run P w = .ok v' w') (h : wpList P ops Q rest (a.put o.dst v') w') : wpList P ops Q (o :: rest) a w :=
  wpList_plain hgd fun _ hK => wp_copy_run w d s t t' ho v u hd hs hr (hK _ _ h)
theorem step_copy_run {ops : Array Oper} {o : Oper} {a : Act} {w : World} {K : Act → World → Prop} {Q : Exit → Act → World → Prop} {E : Prop}
    (hg : o.guard = none) (d x : Operand) (dT sT : TypeId) (hop : o.op = Op.call { callee := Callee.builtin Builtin.copy, args := #[d, x], argTypes := #[dT, sT] })
    (v u : Value) (hd : a.eval d = v) (hx : a.eval x = u) {v' : Value} {w' : World} (hr : (Builtin.copy_ #[dT, sT] o.type #[v, u]).run P w = .ok v' w') (hK : K (a.put o.dst v') w') :
    if Region.wanted o (yielded ops a.tmps) = true then Oper.wp P o a w K Q else E := by
  have hw : Region.wanted o (yielded ops a.tmps) = true := by simp [Region.wanted, hg]
  rw [if_pos hw]
  exact wp_copy_run w d x dT sT hop v u hd hx hr hK
end
theorem Blk.row {w : World} {g : Nat} {T : TypeId} {cs : Array Value} (h : Blk w g T cs) (cs' : Array Value) : Blk (w.setRow g cs') g T cs' := setRow_heap w g cs cs' T (0, 0) h
theorem grown_setRow {w w' : World} {g : Nat} (h : w.grownBy w' (some g)) (cs : Array Value) : w.grownBy (w'.setRow g cs) (some g) :=
  ⟨h.os, h.tape, h.output, by rw [show (w'.setRow g cs).heap.size = w'.heap.size by simp [World.setRow]]; exact h.size, fun k hk hne => (setRow_other w' g k cs (fun e => hne (by rw [e]))).trans (h.block k hk hne)⟩
theorem grown_new {w w' : World} {row : Option Nat} (h : w.grownBy w' row) {g : Nat} (hg : w.heap.size ≤ g) (cs : Array Value) : w.grownBy (w'.setRow g cs) row :=
  ⟨h.os, h.tape, h.output, by rw [show (w'.setRow g cs).heap.size = w'.heap.size by simp [World.setRow]]; exact h.size, fun k hk hne => (setRow_other w' g k cs (by omega)).trans (h.block k hk hne)⟩
theorem grown_drew {w w' : World} {row : Option Nat} (h : w.grownBy w' row) : w.grownBy w'.drew row := ⟨h.os, h.tape, h.output, h.size, h.block⟩
theorem grown_alloc {w w' : World} {row : Option Nat} (h : w.grownBy w' row) (o : Obj) : w.grownBy (w'.alloc o) row :=
  ⟨h.os, h.tape, h.output, by simp; have := h.size; omega, fun k hk hne => (heap_old w' o (by have := h.size; omega)).trans (h.block k hk hne)⟩
/-- what is owned, as a block -/
theorem own_block {w : World} {B : Nat} {E : TypeId} {sz : Nat} {a : Option Addr} {n c m : Nat} {xs : List Value} (h : w.ownsRow B E sz (.slice a n c) m xs) (hn : 0 < n) :
    ∃ g cur, a = some ⟨g, 0, none⟩ ∧ B ≤ g ∧ Blk w g E cur ∧ n ≤ c ∧ c ≤ maxLen ∧ cur.size = c * sz ∧ cur.toList.take (n * sz) = xs ∧ m = n := by
  obtain ⟨_, hm⟩ := Sl.of_own h
  subst hm
  rcases h.2 with ⟨hv, _⟩ | ⟨g, cap, cur, hv, hB, hg, h1, h2, h3, h4⟩
  · injection hv with h1 h2 h3; omega
  · injection hv with e1 e2 e3
    subst e1 e3
    exact ⟨g, cur, rfl, hB, hg, h1, h2, h3, h4, rfl⟩
theorem own_of_block {w : World} {B g : Nat} {E : TypeId} {sz n c : Nat} {cur : Array Value} {xs : List Value} (hb : Blk w g E cur) (hB : B ≤ g) (hn : n ≤ c) (hc : c ≤ maxLen) (hs : cur.size = c * sz) (ht : cur.toList.take (n * sz) = xs) : w.ownsRow B E sz (.slice (some ⟨g, 0, none⟩) n c) n xs := by
  refine ⟨?_, .inr ⟨g, c, cur, rfl, hB, hb, hn, hc, hs, ht⟩⟩
  rw [← ht, List.length_take, Array.length_toList, hs]
  have := Nat.mul_le_mul_right sz hn
  omega
theorem splice_take {L cs : List Value} {k m : Nat} (hm : m = k + cs.length) (hL : m ≤ L.length) : (splice L k cs).take m = L.take k ++ cs := by
  unfold splice
  rw [← List.append_assoc, List.take_append_of_le_length (by simp; omega), List.take_of_length_le (by simp; omega)]
section
variable {P : Program} {T E : TypeId} {sz : Nat} (ht : P.underlying T = some (.slice E)) (hE : ∀ w, (Go.sizeOf E).run P w = .ok sz w)
include ht hE
theorem slice_l_at (g o n c l : Nat) (l' : Int) (hl' : l' = l) (h1 : l ≤ n) (hnc : n ≤ c) (hc : l < c) : ∀ W, (Instr.sliceAt T (.slice (some ⟨g, o, none⟩) n c) (some (.int .i64 l')) none none).run P W = .ok (.slice (some ⟨g, o + l * sz, none⟩) (n - l) (c - l)) W := by
  have he : P.elem T = E := by unfold Program.elem; rw [ht]
  intro W
  rw [run_sliceAt_slice (h := by rw [he]; exact ht), run_slice_l (ht := by rw [he]; exact ht) (h0 := by omega) (h1 := by omega), he, hE]
  have e : l'.toNat = l := by omega
  simp only [Result.andThen, sliced, e]
  rw [if_neg (by omega)]
  simp [Addr.add_lit]
theorem slice_h_at (g o n c hi : Nat) (hi' : Int) (hh' : hi' = hi) (h2 : hi ≤ c) : ∀ W, (Instr.sliceAt T (.slice (some ⟨g, o, none⟩) n c) none (some (.int .i64 hi')) none).run P W = .ok (.slice (some ⟨g, o, none⟩) hi c) W := by
  have he : P.elem T = E := by unfold Program.elem; rw [ht]
  intro W
  rw [run_sliceAt_slice (h := by rw [he]; exact ht), run_slice_h (ht := by rw [he]; exact ht) (h0 := by omega) (h2 := by omega), he, hE]
  have e : hi'.toNat = hi := by omega
  simp only [Result.andThen, sliced, e, Nat.zero_mul, Nat.sub_zero]
  split <;> simp [Addr.add_lit]
end
theorem splice_two {α : Type} {L D E : List α} {k e d : Nat} (hE : E.length = e) (hD : D.length = d) (hL : k + e + d ≤ L.length) : (splice (splice L (k + e) D) k E).take (k + e + d) = L.take k ++ E ++ D := by
  unfold splice
  have h1 : ((L.take (k + e) ++ (D ++ L.drop (k + e + D.length))).take k) = L.take k := by
    rw [List.take_append_of_le_length (by simp; omega), List.take_take, Nat.min_eq_left (by omega)]
  have h2 : ((L.take (k + e) ++ (D ++ L.drop (k + e + D.length))).drop (k + E.length)) = D ++ L.drop (k + e + D.length) := by
    rw [List.drop_append_of_le_length (by simp; omega), List.drop_of_length_le (by simp; omega), List.nil_append]
  rw [h1, h2, ← List.append_assoc, ← List.append_assoc, List.take_append_of_le_length (by simp; omega), List.take_of_length_le (by simp; omega)]
theorem splice_two' {α : Type} {L D E : List α} {k e d : Nat} (hE : E.length = e) (hD : D.length = d) (hL : k + e + d ≤ L.length) : (splice (splice L k E) (k + e) D).take (k + e + d) = L.take k ++ E ++ D := by
  unfold splice
  have h1 : ((L.take k ++ (E ++ L.drop (k + E.length))).take (k + e)) = L.take k ++ E := by
    rw [← List.append_assoc, List.take_append_of_le_length (by simp; omega), List.take_of_length_le (by simp; omega)]
  rw [h1, ← List.append_assoc, List.take_append_of_le_length (by simp; omega), List.take_of_length_le (by simp; omega)]
end Tt

namespace Tt
open Go Go.RowKit
theorem three_boxes (w : World) (T : TypeId) (a : Array Value) (U : TypeId) (b : Array Value) (V : TypeId) (c : Array Value) : ∃ WC, ((w.alloc (.cells a T)).alloc (.cells b U)).alloc (.cells c V) = WC ∧ Blk WC w.heap.size T a ∧ Blk WC (w.heap.size + 1) U b ∧ Blk WC (w.heap.size + 2) V c ∧ Below w.heap.size w WC ∧ WC.heap.size = w.heap.size + 3 := by
  have hA := Blk.new w T a
  have hB := Blk.new (w.alloc (.cells a T)) U b
  have hC := Blk.new ((w.alloc (.cells a T)).alloc (.cells b U)) V c
  rw [show (w.alloc (.cells a T)).heap.size = w.heap.size + 1 by simp] at hB
  rw [show ((w.alloc (.cells a T)).alloc (.cells b U)).heap.size = w.heap.size + 2 by simp] at hC
  exact ⟨_, rfl, (hA.alloc _).alloc _, hB.alloc _, hC, (((Below.refl w.heap.size w).alloc (Nat.le_refl _) _).alloc (by simp) _).alloc (by simp <;> omega) _, by simp⟩
theorem two_boxes (w : World) (T : TypeId) (a : Array Value) (U : TypeId) (b : Array Value) : ∃ WC, (w.alloc (.cells a T)).alloc (.cells b U) = WC ∧ Blk WC w.heap.size T a ∧ Blk WC (w.heap.size + 1) U b ∧ Below w.heap.size w WC ∧ WC.heap.size = w.heap.size + 2 := by
  have hA := Blk.new w T a
  have hB := Blk.new (w.alloc (.cells a T)) U b
  rw [show (w.alloc (.cells a T)).heap.size = w.heap.size + 1 by simp] at hB
  exact ⟨_, rfl, hA.alloc _, hB, ((Below.refl w.heap.size w).alloc (Nat.le_refl _) _).alloc (by simp) _, by simp⟩
theorem four_boxes (w : World) (T : TypeId) (a : Array Value) (U : TypeId) (b : Array Value) (V : TypeId) (c : Array Value) (X : TypeId) (d : Array Value) : ∃ WC, (((w.alloc (.cells a T)).alloc (.cells b U)).alloc (.cells c V)).alloc (.cells d X) = WC ∧ Blk WC w.heap.size T a ∧ Blk WC (w.heap.size + 1) U b ∧ Blk WC (w.heap.size + 2) V c ∧ Blk WC (w.heap.size + 3) X d ∧ Below w.heap.size w WC ∧ WC.heap.size = w.heap.size + 4 := by
  obtain ⟨W3, h3, h4, h5, h6, h7, h8⟩ := three_boxes w T a U b V c
  have hD := Blk.new W3 X d
  rw [h8] at hD
  exact ⟨_, by rw [h3], h4.alloc _, h5.alloc _, h6.alloc _, hD, h7.alloc (by omega) _, by simp [h8]⟩
/-- worlds in which what lies below B is as in w, and one cell more is known -/
theorem mix_worlds (B : Nat) (w : World) (p : Addr) (v : Value) (w1 : World) (h : Below B w w1) (hc : w1.cell? p = some v) :
    ∃ (S : Type) (f : S → World), Nonempty S ∧ (∀ s, Below B w (f s)) ∧ (∀ s, (f s).cell? p = some v) ∧ ∀ W, Below B w W → W.cell? p = some v → ∃ s, W = f s :=
  ⟨{W : World // Below B w W ∧ W.cell? p = some v}, Subtype.val, ⟨⟨w1, h, hc⟩⟩, fun s => s.2.1, fun s => s.2.2, fun W h1 h2 => ⟨⟨W, h1, h2⟩, rfl⟩⟩
/-- worlds in which no old block but one has turned -/
theorem but_worlds (b : Nat) (w : World) : ∃ (S : Type) (f : S → World), Nonempty S ∧ (∀ s, But b w (f s)) ∧ ∀ W, But b w W → ∃ s, W = f s :=
  ⟨{W : World // But b w W}, Subtype.val, ⟨⟨w, But.refl b w⟩⟩, fun s => s.2, fun W h => ⟨⟨W, h⟩, rfl⟩⟩
theorem Blk.but_ {w w' : World} {b k : Nat} {T : TypeId} {cs : Array Value} (h : But b w w') (hb : Blk w k T cs) (hk : k ≠ b) : Blk w' k T cs := (h.block k hb.lt hk).trans hb
end Tt
