import Derived.Test.YtnhcmibngcmebaaL4
import Derived.DeepKeys4
import Derived.Maps.Own
import Derived.Maps.OwnOps
/- The registry's map of rules. -/
namespace Go.Proofs.Ytnhcmibngcmebaa
open Go.RowKit Tt
set_option linter.unusedVariables false
set_option linter.unusedSimpArgs false

theorem laidOut' : laidOutB Try.prog = true := by kernel_rfl
theorem typesPos : 61 < Try.prog.types.size := of_decide_eq_true (by kernel_rfl)
theorem klaw : WideMaps.KeyLaw Try.prog 61 := deep_law_laid laidOut' (m := 2) (by omega) typesPos (by kernel_rfl) (by rw [Try.underlying61])
def plc (d t : Int) : Value := .agg #[.int .i64 d, .int .i64 t]
theorem key_place {d t : Int} (hd : (Lit.int .i64 d).wf = true) (ht : (Lit.int .i64 t).wf = true) : ∃ l, keyOf Try.prog 61 (plc d t) = some l := by
  have h1 : Try.prog.keyType 61 = true := by kernel_rfl
  have h2 : Try.prog.cellsOf 61 = 2 := by kernel_rfl
  have h3 : Try.prog.cellsOf 3 = 1 := by kernel_rfl
  have h4 : ∀ (n : Nat) (x : Int), (Lit.int .i64 x).wf = true → Try.prog.keyLits (n + 1) 3 [.int .i64 x] = some [.int .i64 x] := by
    intro n x hx
    unfold Program.keyLits
    rw [Try.underlying3]
    simp [hx]
  unfold keyOf plc
  rw [Try.underlying61]
  simp only [h1, Bool.true_and]
  rw [if_pos (by unfold Value.formed; rw [Try.underlying61, h2]; rfl)]
  unfold Program.keyLits
  rw [Try.underlying61]
  simp [Value.cells, h2, h3, h4 _ _ hd, h4 _ _ ht]

/-- what a tag's rule says -/
abbrev Ent := (Int × Int) × (List Int × Int)
def EntOk (x : Ent) : Prop := (Lit.int .i64 x.1.1).wf = true ∧ (Lit.int .i64 x.1.2).wf = true
def IsEnt (w : World) (e : MapEntry) (x : Ent) : Prop := EntOk x ∧ e.key = plc x.1.1 x.1.2 ∧ ∃ a n c, e.val = .agg #[.slice a n c, .int .i64 x.2.2] ∧ Sl w a n c 1 (ints .i64 x.2.1)
def Rules (w : World) (b : Nat) (l : List Ent) : Prop :=
  ∃ (es : Array MapEntry) (clock : Nat), w.heap[b]? = some (.map es clock) ∧ es.size = l.length ∧ (∀ (i : Nat) e x, es[i]? = some e → l[i]? = some x → IsEnt w e x) ∧ clock = es.size ∧ ∀ (i : Nat) e, es[i]? = some e → e.born = i
theorem IsEnt.mono {w w' : World} {e : MapEntry} {x : Ent} (h : IsEnt w e x) (hs : ∀ a n c l, Sl w a n c 1 (ints .i64 l) → Sl w' a n c 1 (ints .i64 l)) : IsEnt w' e x := by
  obtain ⟨h1, h2, a, n, c, h3, h4⟩ := h
  exact ⟨h1, h2, a, n, c, h3, hs _ _ _ _ h4⟩
theorem Rules.lt {w : World} {b : Nat} {l : List Ent} (h : Rules w b l) : b < w.heap.size := by
  obtain ⟨es, clock, h1, _⟩ := h
  exact (Array.getElem?_eq_some_iff.1 h1).1
theorem Rules.mono {w w' : World} {b : Nat} {l : List Ent} (h : Rules w b l) (hb : Below w.heap.size w w') : Rules w' b l := by
  have hlt := h.lt
  obtain ⟨es, clock, h1, h2, h3, h4⟩ := h
  exact ⟨es, clock, by rw [hb.block b hlt]; exact h1, h2, fun i e x he hx => (h3 i e x he hx).mono fun _ _ _ _ s => s.mono hb, h4⟩

/-- Nothing that was there has turned but block b. -/
structure But (b : Nat) (w w' : World) : Prop where
  os : w'.os = w.os
  tape : w'.tape = w.tape
  output : w'.output = w.output
  size : w.heap.size ≤ w'.heap.size
  block : ∀ k, k < w.heap.size → k ≠ b → w'.heap[k]? = w.heap[k]?
theorem But.refl (b : Nat) (w : World) : But b w w := ⟨rfl, rfl, rfl, Nat.le_refl _, fun _ _ _ => rfl⟩
theorem But.trans {b : Nat} {w w' w'' : World} (h : But b w w') (k : But b w' w'') : But b w w'' :=
  ⟨k.os.trans h.os, k.tape.trans h.tape, k.output.trans h.output, Nat.le_trans h.size k.size, fun i hi hne => (k.block i (Nat.lt_of_lt_of_le hi h.size) hne).trans (h.block i hi hne)⟩
theorem But.of_below {b : Nat} {w w' : World} (h : Below w.heap.size w w') : But b w w' := ⟨h.os, h.tape, h.output, h.size, fun k hk _ => h.block k hk⟩
theorem But.alloc {b : Nat} {w w' : World} (h : But b w w') (o : Obj) : But b w (w'.alloc o) := h.trans (But.of_below ((Below.refl _ _).alloc (Nat.le_refl _) _))
theorem But.below {b : Nat} {w w' : World} (h : But b w w') {B : Nat} (h1 : B ≤ b) (h2 : B ≤ w.heap.size) : Below B w w' := ⟨h.os, h.tape, h.output, h.size, fun k hk => h.block k (by omega) (by omega)⟩
theorem But.cell {b : Nat} {w w' : World} (h : But b w w') {p : Addr} (h1 : p.block < w.heap.size) (h2 : p.block ≠ b) : w'.cell? p = w.cell? p := by
  unfold World.cell?
  rw [h.block _ h1 h2]

theorem plc_inj {d t d' t' : Int} (h : plc d t = plc d' t') : (d, t) = (d', t') := by
  unfold plc at h
  injection h with h
  simp at h
  rw [h.1, h.2]
theorem ent_keyed {w : World} {es : Array MapEntry} {l : List Ent} (h2 : es.size = l.length) (h3 : ∀ (i : Nat) e x, es[i]? = some e → l[i]? = some x → IsEnt w e x) : ∀ e ∈ es.toList, ∃ k, keyOf Try.prog 61 e.key = some k := by
  intro e he
  obtain ⟨i, hi, hie⟩ := List.mem_iff_getElem.1 he
  have hi' : i < es.size := by simpa using hi
  obtain ⟨hok, hk, _⟩ := h3 i e l[i] (by rw [← hie]; simp [hi']) (List.getElem?_eq_getElem (by omega))
  rw [hk]
  exact key_place hok.1 hok.2

/-- 'm[k] = v' at a new key. -/
theorem run_put_new {w : World} {b : Nat} {l : List Ent} (h : Rules w b l) {d t : Int} (hd : (Lit.int .i64 d).wf = true) (ht : (Lit.int .i64 t).wf = true) (hno : ∀ x ∈ l, x.1 ≠ (d, t))
    {a : Option Addr} {n c : Nat} {types : List Int} (hs : Sl w a n c 1 (ints .i64 types)) (count : Int) :
    ∃ w', (Instr.mapUpdate 58 (.map (some b)) (plc d t) (.agg #[.slice a n c, .int .i64 count])).run Try.prog w = .ok () w' ∧ Rules w' b (l ++ [((d, t), (types, count))]) ∧ But b w w' := by
  have hlt := h.lt
  obtain ⟨es, clock, h1, h2, h3, h4, h5⟩ := h
  obtain ⟨kl, hkl⟩ := key_place hd ht
  have hfind := klaw.find w hkl es.toList (ent_keyed h2 h3)
  have hnone : (Instr.findKey 61 (plc d t) es.toList).run Try.prog w = .ok none w := by
    rcases hfind with ⟨h, _⟩ | ⟨j, e, _, hj, he⟩
    · exact h
    · exfalso
      have hj' : es[j]? = some e := by simpa using hj
      have hjl : j < es.size := (Array.getElem?_eq_some_iff.1 hj').1
      obtain ⟨_, hk, _⟩ := h3 j e l[j] hj' (List.getElem?_eq_getElem (by omega))
      rw [hk] at he
      exact hno _ (List.getElem_mem (by omega)) (plc_inj he)
  have hrun : (Instr.mapUpdate 58 (.map (some b)) (plc d t) (.agg #[.slice a n c, .int .i64 count])).run Try.prog w = .ok () (ChangeMaps.setBlock w b (.map (es.push ⟨plc d t, .agg #[.slice a n c, .int .i64 count], clock⟩) (clock + 1))) := by
    simp [Instr.mapUpdate, run_underlying Try.underlying58, MapKept.run_getObj_map h1, klaw.check w false hkl, hnone, MapKept.run_setObj_map _ h1, Result.andThen, ChangeMaps.setBlock]
  have hne : ∀ k, k ≠ b → (ChangeMaps.setBlock w b (.map (es.push ⟨plc d t, .agg #[.slice a n c, .int .i64 count], clock⟩) (clock + 1))).heap[k]? = w.heap[k]? := fun k hk => by
    simp [ChangeMaps.setBlock, Ne.symm hk]
  have hself : (ChangeMaps.setBlock w b (.map (es.push ⟨plc d t, .agg #[.slice a n c, .int .i64 count], clock⟩) (clock + 1))).heap[b]? = some (.map (es.push ⟨plc d t, .agg #[.slice a n c, .int .i64 count], clock⟩) (clock + 1)) := by
    simp [ChangeMaps.setBlock, hlt]
  have hsz : (ChangeMaps.setBlock w b (.map (es.push ⟨plc d t, .agg #[.slice a n c, .int .i64 count], clock⟩) (clock + 1))).heap.size = w.heap.size := by
    simp [ChangeMaps.setBlock]
  have hb : But b w (ChangeMaps.setBlock w b (.map (es.push ⟨plc d t, .agg #[.slice a n c, .int .i64 count], clock⟩) (clock + 1))) :=
    ⟨rfl, rfl, rfl, by rw [hsz]; exact Nat.le_refl _, fun k _ hk => hne k hk⟩
  have hsl : ∀ (a' : Option Addr) (n' c' : Nat) (l' : List Int), Sl w a' n' c' 1 (ints .i64 l') → Sl (ChangeMaps.setBlock w b (.map (es.push ⟨plc d t, .agg #[.slice a n c, .int .i64 count], clock⟩) (clock + 1))) a' n' c' 1 (ints .i64 l') := by
    intro a' n' c' l' hs
    refine ⟨hs.len, hs.le, hs.max, fun i hi => ?_, hs.fit⟩
    obtain ⟨b2, o2, e2, hlt2, hc2⟩ := hs.lies i hi
    have hne2 : b2 ≠ b := by
      rintro rfl
      have hl' : 0 < (ints .i64 l').length := by rw [hs.len]; omega
      have := hc2 0 _ (List.getElem?_eq_getElem hl')
      unfold World.cell? at this
      rw [h1] at this
      cases this
    refine ⟨b2, o2, e2, by rw [hsz]; exact hlt2, fun j v hv => ?_⟩
    have := hc2 j v hv
    unfold World.cell? at this ⊢
    rw [hne _ hne2]
    exact this
  refine ⟨_, hrun, ?_, hb⟩
  refine ⟨_, _, hself, by simp [h2], fun i e x he hx => ?_, by simp [h4], fun i e he => ?_⟩
  rotate_left
  · rcases Nat.lt_or_ge i es.size with hi | hi
    · rw [Array.getElem?_push_lt hi] at he
      exact h5 i e (by rw [← he]; simp [hi])
    · have hi2 : i = es.size := by
        have := (Array.getElem?_eq_some_iff.1 he).1
        simp at this
        omega
      subst hi2
      rw [Array.getElem?_push_size] at he
      have hbn : e.born = clock := congrArg MapEntry.born (Option.some.inj he).symm
      exact hbn.trans h4
  rcases Nat.lt_or_ge i es.size with hi | hi
  · rw [Array.getElem?_push_lt hi] at he
    rw [List.getElem?_append_left (by omega)] at hx
    exact (h3 i e x (by rw [← he]; simp [hi]) hx).mono hsl
  · rw [List.getElem?_append_right (by omega)] at hx
    have hi2 : i = es.size := by
      have := (List.getElem?_eq_some_iff.1 hx).1
      simp at this
      omega
    subst hi2
    rw [h2] at hx
    simp at hx
    rw [Array.getElem?_push_size] at he
    injection he with he
    rw [← he, ← hx]
    exact ⟨⟨hd, ht⟩, rfl, a, n, c, rfl, hsl _ _ _ _ hs⟩

/-- 'v, ok := m[k]'. -/
theorem run_look {w : World} {b : Nat} {l : List Ent} (h : Rules w b l) {d t : Int} (hd : (Lit.int .i64 d).wf = true) (ht : (Lit.int .i64 t).wf = true) :
    ((Instr.lookup 58 (.map (some b)) (plc d t) true).run Try.prog w = .ok (.tuple #[.agg #[.slice none 0 0, .int .i64 0], .bool false]) w ∧ ∀ x ∈ l, x.1 ≠ (d, t)) ∨
    ∃ x ∈ l, x.1 = (d, t) ∧ ∃ a n c, Sl w a n c 1 (ints .i64 x.2.1) ∧ (Instr.lookup 58 (.map (some b)) (plc d t) true).run Try.prog w = .ok (.tuple #[.agg #[.slice a n c, .int .i64 x.2.2], .bool true]) w := by
  obtain ⟨es, clock, h1, h2, h3, _⟩ := h
  obtain ⟨kl, hkl⟩ := key_place hd ht
  have hz : (zeroValue 56).run Try.prog w = .ok (.agg #[.slice none 0 0, .int .i64 0]) w := by kernel_rfl
  rcases klaw.find w hkl es.toList (ent_keyed h2 h3) with ⟨f1, f2⟩ | ⟨j, e, f1, f2, f3⟩
  · left
    refine ⟨by simp [Instr.lookup, run_underlying Try.underlying58, MapKept.run_getObj_map h1, klaw.check w _ hkl, f1, hz, Result.andThen], fun x hx he => ?_⟩
    obtain ⟨i, hi, rfl⟩ := List.mem_iff_getElem.1 hx
    have hi' : i < es.size := by omega
    obtain ⟨_, hk, _⟩ := h3 i es[i] l[i] (by simp [hi']) (List.getElem?_eq_getElem hi)
    rw [he] at hk
    exact f2 es[i] (by simp) hk
  · right
    have hj' : es[j]? = some e := by simpa using f2
    have hjl : j < es.size := (Array.getElem?_eq_some_iff.1 hj').1
    obtain ⟨_, hk, a, n, c, hv, hs⟩ := h3 j e l[j] hj' (List.getElem?_eq_getElem (by omega))
    rw [hk] at f3
    refine ⟨l[j], List.getElem_mem (by omega), plc_inj f3, a, n, c, hs, ?_⟩
    rw [hv] at f1
    simp [Instr.lookup, run_underlying Try.underlying58, MapKept.run_getObj_map h1, klaw.check w _ hkl, f1, Result.andThen]

section
variable {w : World} {ops : Array Oper} {rest : List Oper} {o : Oper} {a : Act} {Q : Exit → Act → World → Prop}
theorem wpList_put_new (hg : o.guard = none) (m x v : Operand) (hop : o.op = Op.mapUpdate 58 m x v) (b : Nat) (l : List Ent) (d t count : Int) (a1 : Option Addr) (n c : Nat) (types : List Int)
    (hm : a.eval m = .map (some b)) (hx : a.eval x = plc d t) (hv : a.eval v = .agg #[.slice a1 n c, .int .i64 count]) (hr : Rules w b l) (hd : (Lit.int .i64 d).wf = true) (ht : (Lit.int .i64 t).wf = true) (hno : ∀ x ∈ l, x.1 ≠ (d, t)) (hs : Sl w a1 n c 1 (ints .i64 types))
    (hK : ∀ w', Rules w' b (l ++ [((d, t), (types, count))]) → But b w w' → wpList Try.prog ops Q rest (a.put o.dst undef) w') : wpList Try.prog ops Q (o :: rest) a w := by
  refine wpList_plain hg fun K' hK' => ?_
  obtain ⟨w', hrun, r1, r2⟩ := run_put_new hr hd ht hno hs count
  unfold Oper.wp
  simp [execOp, hop, hm, hx, hv, hrun, Result.andThen]
  exact hK' _ _ (hK w' r1 r2)
theorem wpList_look_no (hg : o.guard = none) (m x : Operand) (hop : o.op = Op.lookup 58 m x true) (b : Nat) (l : List Ent) (d t : Int)
    (hm : a.eval m = .map (some b)) (hx : a.eval x = plc d t) (hr : Rules w b l) (hd : (Lit.int .i64 d).wf = true) (ht : (Lit.int .i64 t).wf = true) (hno : ∀ x ∈ l, x.1 ≠ (d, t))
    (hK : wpList Try.prog ops Q rest (a.put o.dst (.tuple #[.agg #[.slice none 0 0, .int .i64 0], .bool false])) w) : wpList Try.prog ops Q (o :: rest) a w := by
  refine wpList_plain hg fun K' hK' => ?_
  rcases run_look hr hd ht with ⟨hrun, _⟩ | ⟨x, hx, he, _⟩
  · unfold Oper.wp
    simp [execOp, hop, hm, hx, hrun, Result.andThen]
    exact hK' _ _ hK
  · exact absurd he (hno x hx)
theorem wpList_look_yes (hg : o.guard = none) (m x : Operand) (hop : o.op = Op.lookup 58 m x true) (b : Nat) (l : List Ent) (d t : Int)
    (hm : a.eval m = .map (some b)) (hx : a.eval x = plc d t) (hr : Rules w b l) (hd : (Lit.int .i64 d).wf = true) (ht : (Lit.int .i64 t).wf = true) (hyes : ∃ x ∈ l, x.1 = (d, t))
    (hK : ∀ x ∈ l, x.1 = (d, t) → ∀ a1 n c, Sl w a1 n c 1 (ints .i64 x.2.1) → wpList Try.prog ops Q rest (a.put o.dst (.tuple #[.agg #[.slice a1 n c, .int .i64 x.2.2], .bool true])) w) : wpList Try.prog ops Q (o :: rest) a w := by
  refine wpList_plain hg fun K' hK' => ?_
  rcases run_look hr hd ht with ⟨_, hn⟩ | ⟨x, hm1, he, a1, n, c, hs, hrun⟩
  · obtain ⟨x, hx, he⟩ := hyes
    exact absurd he (hn x hx)
  · unfold Oper.wp
    simp [execOp, hop, hm, hx, hrun, Result.andThen]
    exact hK' _ _ (hK x hm1 he a1 n c hs)
end

theorem Rules.made (w : World) : Rules (w.alloc (.map #[] 0)) w.heap.size [] := ⟨#[], 0, heap_new w _, rfl, fun i e x he _ => by simp at he, rfl, fun i e he => by simp at he⟩

set_option maxHeartbeats 1000000 in
theorem put_any (b : Nat) (dir tag count : Int) (a : Option Addr) (n c : Nat) (types : List Int) (l : List Ent) (w : World) (hr : Rules w b l) (hd : (Lit.int .i64 dir).wf = true) (ht : (Lit.int .i64 tag).wf = true) (hno : ∀ x ∈ l, x.1 ≠ (dir, tag)) (hs : Sl w a n c 1 (ints .i64 types)) :
    Calls Try.prog 57 #[.agg #[.map (some b), .int .i64 dir], .int .i64 tag, .int .i64 count, .slice a n c] w fun e w' => e = .returned (.tuple #[]) ∧ Rules w' b (l ++ [((dir, tag), (types, count))]) ∧ But b w w' := by
  have hlt := hr.lt
  go_enter Try.func57, Try.ntmps57
  go_wp2_with (at_mapUpdate; refine wpList_put_new rfl (.tmp 9) (.tmp 13) (.tmp 16) rfl b l dir tag count a n c types rfl rfl rfl (hr.mono ((Below.refl _ _).alloc (Nat.le_refl _) _)) hd ht hno (sl_alloc hs _) ?_; intro w2 hr2 hb2)
  go_end0
  exact ⟨rfl, hr2, ((But.refl b w).alloc _).trans hb2⟩
end Go.Proofs.Ytnhcmibngcmebaa
