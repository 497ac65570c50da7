/- More general words: a row that the call made and writes; a copy into it; bytes of a conversion. -/
import Derived.Test.YtheelhepelbgcaaL
import Derived.Laws.CopyOwn
import Derived.ArgAppend
namespace Tt
open Go Go.RowKit

theorem u8_wrap (n : Int) : 0 ≤ IntKind.u8.wrap n ∧ IntKind.u8.wrap n < 256 := by rw [IntKind.wrap_u8]; omega

/-- Block g is a row of one-cell elements of type E, holding the numbers 'l'. -/
def Row (w : World) (g : Nat) (E : TypeId) (k : IntKind) (l : List Int) : Prop := w.heap[g]? = some (.cells (ints k l).toArray E (0, 0))
theorem Row.own {w : World} {g B : Nat} {E : TypeId} {k : IntKind} {l : List Int} {n : Nat} (h : Row w g E k l) (hl : l.length = n) (hB : B ≤ g) (hm : n ≤ maxLen) : w.ownsRow B E 1 (.slice (some ⟨g, 0, none⟩) n n) n (ints k l) :=
  ⟨by rw [ints_len, hl, Nat.mul_one], .inr ⟨g, n, _, rfl, hB, h, Nat.le_refl _, hm, by simp [ints_len, hl], by simp; rw [List.take_of_length_le (by rw [ints_len, hl]; exact Nat.le_refl _)]⟩⟩
theorem Row.of_own {w : World} {g B : Nat} {E : TypeId} {k : IntKind} {l : List Int} {n : Nat} (h : w.ownsRow B E 1 (.slice (some ⟨g, 0, none⟩) n n) n (ints k l)) : Row w g E k l := by
  rcases h.2 with ⟨hv, _⟩ | ⟨g', cap, cur, hv, _, hg, _, _, hcs, htk⟩
  · cases hv
  · injection hv with h1 h2 h3
    injection h1 with h1
    injection h1 with h1
    subst h1 h3
    unfold Row
    rw [hg, ← htk, List.take_of_length_le (by rw [Array.length_toList, hcs]; exact Nat.le_refl _)]
theorem Row.cell {w : World} {g : Nat} {E : TypeId} {k : IntKind} {l : List Int} (h : Row w g E k l) {i : Nat} (hi : i < l.length) : w.cell? ⟨g, i, none⟩ = some (.int k (l.getD i 0)) := by
  unfold World.cell?
  rw [h]
  simpa using ints_get (k := k) hi
theorem Row.frozen {w : World} {g : Nat} {E : TypeId} {k : IntKind} {l : List Int} (h : Row w g E k l) (i : Nat) : w.frozen? ⟨g, i, none⟩ = false := by
  unfold World.frozen?
  rw [h]
  simp
theorem Row.set {w : World} {g : Nat} {E : TypeId} {k : IntKind} {l : List Int} (h : Row w g E k l) (i : Nat) (v : Int) : Row (w.setCell ⟨g, i, none⟩ (.int k v)) g E k (l.set i v) := by
  unfold Row at *
  simp [World.setCell, Array.getElem?_modify, h, ints, List.map_set]
theorem byt_set {l : List Int} (h : Byt l) (i : Nat) {v : Int} (hv : 0 ≤ v ∧ v < 256) : Byt (l.set i v) := by
  intro x hx
  rcases List.mem_or_eq_of_mem_set hx with h1 | h1
  · exact h x h1
  · rw [h1]; exact hv
theorem byt_splice {l cs : List Int} (h : Byt l) (hc : Byt cs) (i : Nat) : Byt (splice l i cs) := by
  unfold splice
  exact (h.take _).append (hc.append (h.drop _))
theorem ints_splice {k : IntKind} {l cs : List Int} (i : Nat) : splice (ints k l) i (ints k cs) = ints k (splice l i cs) := by
  unfold splice ints
  simp
theorem Row.lt {w : World} {g : Nat} {E : TypeId} {k : IntKind} {l : List Int} (h : Row w g E k l) : g < w.heap.size := (Array.getElem?_eq_some_iff.1 h).1

theorem Sl.new' {b : Nat} (w : World) (E : TypeId) (sz n : Nat) (cur : Array Value) (fz : Nat × Nat) (hb : b = w.heap.size) (hn : n ≤ 9223372036854775807) (hs : cur.size = n * sz) :
    Sl (w.alloc (.cells cur E fz)) (some ⟨b, 0, none⟩) n n sz cur.toList := by rw [hb]; exact Sl.new w E sz n cur fz hn hs

section
variable {P : Program} {w : World} {ops : Array Oper} {rest : List Oper} {o : Oper} {a : Act} {Q : Exit → Act → World → Prop}
/-- 'copy(d, s)' into a row of the call's own. -/
theorem wpList_copy_row (hgd : o.guard = none) (d s : Operand) (dT sT : TypeId)
    (ho : o.op = .call { callee := .builtin .copy, args := #[d, s], argTypes := #[dT, sT] }) (elem : TypeId) (hu : P.underlying dT = some (.slice elem)) (hsz : (P.info? elem).map (·.size) = some 1)
    (g n : Nat) (k : IntKind) (l : List Int) (hd : a.eval d = .slice (some ⟨g, 0, none⟩) n n) (hR : Row w g elem k l) (hl : l.length = n)
    (sa : Option Addr) (m c : Nat) (cs : List Int) (hs : a.eval s = .slice sa m c) (hS : Sl w sa m c 1 (ints k cs)) (B : Nat) (w0 : World) (hb : Below B w0 w) (hBg : B ≤ g)
    (h : ∀ w', Row w' g elem k (splice l 0 (cs.take n)) → Below B w0 w' → wpList P ops Q rest (a.put o.dst (goInt ((min m n : Nat) : Int))) w') : wpList P ops Q (o :: rest) a w := by
  have hml := hS.ilen
  have hcl : (ints k (cs.take n)).length = min m n := by rw [ints_len, List.length_take, hml, Nat.min_comm]
  refine wpList_copy_splice hgd d s dT sT ho elem hu hsz (some ⟨g, 0, none⟩) sa n n m c hd hs g 0 (ints k l) elem hR (ints k (cs.take n)) hcl ?_ (by rw [hcl, ints_len, hl]; omega) ints_one B w0 hb hBg ?_
  · intro hp
    rw [hcl] at hp
    obtain ⟨b, off, e, _, hc⟩ := hS.lies 0 (by omega)
    refine ⟨rfl, ⟨b, off, none⟩, e, fun j v hj => ?_⟩
    rw [Addr.add_lit]
    refine hc j v ?_
    rw [ints, List.map_take] at hj
    rw [List.getElem?_take] at hj
    split at hj
    · exact hj
    · cases hj
  · intro w' hw hb'
    rw [ints_splice] at hw
    rw [hcl]
    exact h w' hw.out hb'
/-- An operation that is wanted, guarded or not. -/
theorem wpList_want (hw : Region.wanted o (yielded ops a.tmps) = true) (h : ∀ K : Act → World → Prop, (∀ a w, wpList P ops Q rest a w → K a w) → o.wp P a w K Q) : wpList P ops Q (o :: rest) a w :=
  wpList_step fun K hK => by rw [if_pos hw]; exact h K hK

/-- 'append(s, x...)' where it must grow, whatever s is. -/
theorem wpList_grow (hw : Region.wanted o (yielded ops a.tmps) = true) (s x : Operand) (t : TypeId)
    (ho : o.op = .call { callee := .builtin .append, args := #[s, x], argTypes := #[t, t] })
    (e : TypeId) (i : TypeInfo) (z : Value) (size bytes : Nat) (ht : P.underlying t = some (.slice e)) (hi : P.info? e = some i) (hz : i.zero = some z)
    (hsize : i.size = size) (hby : i.bytes = bytes) (hzs : z.cells.size = size) (hsz : 0 < size)
    (ao : Option Addr) (n cap : Nat) (olds : List Value) (hs : a.eval s = .slice ao n cap) (hO : Sl w ao n cap size olds)
    (xa : Option Addr) (m c : Nat) (news : List Value) (hx : a.eval x = .slice xa m c) (hS : Sl w xa m c size news) (h1 : ∀ u ∈ news, u.oneCell' = true)
    (hfull : cap < n + m) (hbytes : (n + m) * bytes ≤ 140737488355328) (hb0 : 0 < bytes)
    (h : ∀ (a' : Option Addr) (c' : Nat) (w' : World), w'.ownsRow w.heap.size e size (.slice a' (n + m) c') (n + m) (olds ++ news) → Below w.heap.size w w' → wpList P ops Q rest (a.put o.dst (.slice a' (n + m) c')) w') : wpList P ops Q (o :: rest) a w := by
  have h63 : n + m ≤ maxLen := by
    have : (n + m) * 1 ≤ (n + m) * bytes := Nat.mul_le_mul_left _ hb0
    unfold maxLen; omega
  have hle := hO.le
  obtain ⟨b, off, rfl, _, hc⟩ := hS.lies 0 (by omega)
  have hnews : ∀ j u, news[j]? = some u → w.cell? ((⟨b, off, none⟩ : Addr).add j) = some u := fun j u hj => by rw [Addr.add_lit]; exact hc j u hj
  have hv' : ∀ (v' : Value) (w' : World), w'.ownsRow w.heap.size e size v' (n + m) (olds ++ news) → ∃ (a' : Option Addr) (c' : Nat), v' = .slice a' (n + m) c' := by
    intro v' w' hw
    rcases hw.2 with ⟨rfl, h0⟩ | ⟨g, cap, cur, rfl, _⟩
    · exact ⟨none, 0, by rw [h0]⟩
    · exact ⟨_, _, rfl⟩
  refine wpList_want hw fun K hK => ?_
  cases ao with
  | some q =>
    have hold : ∀ j u, olds[j]? = some u → w.cell? (q.add j) = some u := by
      intro j u hj
      have hj' : j < olds.length := (List.getElem?_eq_some_iff.1 hj).1
      have hn0 : 0 < n := by
        rcases Nat.eq_zero_or_pos n with h0 | h0
        · rw [hO.len, h0] at hj'; omega
        · exact h0
      obtain ⟨b2, off2, e2, _, hc2⟩ := hO.lies 0 hn0
      injection e2 with e2
      subst e2
      rw [Addr.add_lit]
      exact hc2 j u hj
    obtain ⟨v', w', hrun, r1, r2⟩ := run_append_arg_grows (P := P) w t o.type e i z size bytes ht hi hz hsize hby hzs hsz q n cap olds hO.len hold ⟨b, off, none⟩ m c news hS.len hnews hfull h63 hbytes
    obtain ⟨a', c', rfl⟩ := hv' v' w' r1
    unfold Oper.wp
    simp [execOp, ho, resolve, invoke, builtin, hs, hx, hrun, Result.andThen]
    exact hK _ _ (h a' c' w' r1 ((Below.refl _ _).grown r2 (Nat.le_refl _) (fun k e => by cases e)))
  | none =>
    have hcap := hO.fit rfl
    subst hcap
    have hn0 : n = 0 := by omega
    subst hn0
    have ho0 : olds = [] := List.eq_nil_of_length_eq_zero (by rw [hO.len]; simp)
    subst ho0
    obtain ⟨v', w', hrun, r1, r2, _⟩ := run_append_own (P := P) w w.heap.size t o.type e i z size bytes ht hi hz hsize hby hzs hsz (.slice none 0 0) 0 [] (World.ownsRow_nil w _ e size) ⟨b, off, none⟩ m c news hS.len hnews h1 h63 hbytes (Nat.le_refl _)
    obtain ⟨a', c', rfl⟩ := hv' v' w' r1
    have hf := h a' c' w' r1 ((Below.refl _ _).grown r2 (Nat.le_refl _) (fun k e => by cases e))
    rw [Nat.zero_add] at hf hrun
    unfold Oper.wp
    simp [execOp, ho, resolve, invoke, builtin, hs, hx, hrun, Result.andThen]
    exact hK _ _ hf
end
end Tt
