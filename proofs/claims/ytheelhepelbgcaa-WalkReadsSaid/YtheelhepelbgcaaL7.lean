/- '[]byte(s)' of a string, and one more byte appended. -/
import Derived.Test.YtheelhepelbgcaaL6
import Derived.Lib.ConvBytes
import Derived.Laws.AppendOwn
namespace Tt
open Go Go.RowKit
set_option linter.unusedVariables false

def strB (s : ByteArray) : List Int := s.data.toList.map fun b => (b.toNat : Int)
theorem strB_byt (s : ByteArray) : Byt (strB s) := fun x hx => by
  obtain ⟨b, _, rfl⟩ := List.mem_map.1 hx
  have := b.toNat_lt
  omega
theorem strB_len (s : ByteArray) : (strB s).length = s.size := by simp [strB]

theorem bytesWorld_below (w : World) (e : TypeId) (s : ByteArray) : Below w.heap.size w (Lib.bytesWorld w e s) :=
  ⟨rfl, rfl, rfl, by rw [Lib.bytesWorld_size]; omega, fun k hk => Lib.bytesWorld_at_old w e s k hk⟩

section
variable {P : Program} {w : World} {ops : Array Oper} {rest : List Oper} {o : Oper} {a : Act} {Q : Exit → Act → World → Prop}
theorem wpList_app_one (hgd : o.guard = none) (s x : Operand) (t : TypeId)
    (ho : o.op = .call { callee := .builtin .append, args := #[s, x], argTypes := #[t, t] })
    (base : Nat) (e : TypeId) (i : TypeInfo) (z : Value) (ht : P.underlying t = some (.slice e)) (hi : P.info? e = some i) (hz : i.zero = some z)
    (hsize : i.size = 1) (hby : i.bytes = 1) (hzs : z.cells.size = 1)
    (g n cap : Nat) (cur : Array Value) (fz : Nat × Nat) (hs : a.eval s = .slice (some ⟨g, 0, none⟩) n cap) (hg : w.heap[g]? = some (.cells cur e fz)) (hfz : cur.size ≤ fz.1) (hc : cur.size = cap) (hn : n ≤ cap) (hcm : cap ≤ maxLen)
    (ad : Addr) (c : Nat) (u : Value) (hx : a.eval x = .slice (some ad) 1 c) (hu : w.cell? ad = some u) (h1 : u.oneCell' = true) (hb : n + 1 ≤ 140737488355328) (hbg : base ≤ g) (hbase : base ≤ w.heap.size)
    (h : ∀ (a' : Option Addr) (c' : Nat) (w' : World), Sl w' a' (n + 1) c' 1 (cur.toList.take n ++ [u]) → (∀ x, a' = some x → base ≤ x.block) → Below base w w' → wpList P ops Q rest (a.put o.dst (.slice a' (n + 1) c')) w') : wpList P ops Q (o :: rest) a w := by
  refine wpList_plain hgd fun K hK => ?_
  have hnews : ∀ j v, [u][j]? = some v → w.cell? (ad.add j) = some v := fun j v hj => by
    cases j with
    | zero => simp at hj; subst hj; exact hu
    | succ j => simp at hj
  have hlt : g < w.heap.size := (Array.getElem?_eq_some_iff.1 hg).1
  have hcell : ∀ j v, cur[j]? = some v → w.cell? ⟨g, j, none⟩ = some v := fun j v hj => by
    unfold World.cell?; rw [hg]; simpa using hj
  have hlen : (cur.toList.take n ++ [u]).length = (n + 1) * 1 := by
    rw [List.length_append, List.length_take, Array.length_toList, Nat.min_eq_left (by omega)]; simp
  have hget : ∀ j, j < n → (cur.toList.take n ++ [u])[j]? = cur[j]? := fun j hj => by
    rw [List.getElem?_append_left (by rw [List.length_take, Array.length_toList]; omega), List.getElem?_take, if_pos hj, Array.getElem?_toList]
  have hgetn : (cur.toList.take n ++ [u])[n]? = some u := by
    rw [List.getElem?_append_right (by rw [List.length_take, Array.length_toList]; omega), List.length_take, Array.length_toList, Nat.min_eq_left (by omega), Nat.sub_self]; rfl
  by_cases hroom : n + 1 ≤ cap
  · have hf := run_firstCells_some (P := P) w i.size 1 ad 1 c [u] (by rw [hsize]; rfl) hnews
    have hcn : ∃ v, cur[n]? = some v := ⟨_, Array.getElem?_eq_getElem (by omega)⟩
    obtain ⟨v0, hv0⟩ := hcn
    have hc0 := hcell n v0 hv0
    have hfr : w.frozen? ⟨g, n, none⟩ = false := by
      obtain ⟨lo, hi'⟩ := fz
      simp only [World.frozen?, hg, Bool.and_eq_false_iff, decide_eq_false_iff_not]
      left
      simp only at hfz
      omega
    have hst : (store ⟨g, n, none⟩ u).run P w = .ok () (w.setCell ⟨g, n, none⟩ u) := by
      rw [run_store P w _ u _ h1, hc0]
      simp [hfr]
    have hst2 : (storeCells ⟨g, n * i.size, none⟩ [u] 0).run P w = .ok () (w.setCell ⟨g, n, none⟩ u) := by
      have hadd0 : (⟨g, n, none⟩ : Addr).add 0 = ⟨g, n, none⟩ := rfl
      rw [hsize, Nat.mul_one]
      simp only [storeCells, hadd0, Sem.run_bind, hst, Result.andThen_ok]
      rfl
    have hr : (Builtin.append_ #[t, t] o.type #[.slice (some ⟨g, 0, none⟩) n cap, .slice (some ad) 1 c]).run P w = .ok (.slice (some ⟨g, 0, none⟩) (n + 1) cap) (w.setCell ⟨g, n, none⟩ u) := by
      simp [Builtin.append_, run_underlying ht, Go.sizeOf, Go.typeInfo, hi, Builtin.lenOf, hroom, hf, Addr.add_lit, hst2]
    unfold Oper.wp execOp
    simp only [ho, resolve, invoke, builtin, Sem.run_bind, Sem.run_pure, Result.andThen_ok, List.map_toArray, List.map_cons, List.map_nil, hs, hx, hr]
    refine hK _ _ (h _ _ _ ⟨hlen, hroom, hcm, fun k hk => ⟨g, 0, rfl, by simpa using hlt, fun j v hj => ?_⟩, fun he => by cases he⟩ (fun x hx => by cases hx; exact hbg) ((Below.refl _ _).setCell hbg _))
    rw [Nat.zero_add]
    have hj' : j < n + 1 := by
      have := (List.getElem?_eq_some_iff.1 hj).1
      rw [hlen] at this; omega
    by_cases hjn : j = n
    · subst hjn
      rw [hgetn] at hj
      cases hj
      exact World.cell?_setCell_same w _ _ hc0
    · rw [hget j (by omega)] at hj
      have hne : (⟨g, n, none⟩ : Addr) ≠ ⟨g, j, none⟩ := by intro he; injection he with _ h2; omega
      exact (World.cell?_setCell_other _ _ _ _ hne).trans (hcell j v hj)
  · have hnc : n = cap := by omega
    have hr := run_append_grow (P := P) w t o.type e i z ht hi hz ⟨g, 0, none⟩ n cap (cur.toList.take n) (by rw [hsize, List.length_take, Array.length_toList]; omega) (fun j v hj => by
      rw [Addr.add_lit, Nat.zero_add]
      rw [List.getElem?_take] at hj
      split at hj
      · rw [Array.getElem?_toList] at hj; exact hcell j v hj
      · cases hj) ad 1 c [u] (by rw [hsize]; rfl) hnews (by omega) (by omega) (by rw [hby]; exact growslice_fits (by omega) (by omega))
    unfold Oper.wp execOp
    simp only [ho, resolve, invoke, builtin, Sem.run_bind, Sem.run_pure, Result.andThen_ok, List.map_toArray, List.map_cons, List.map_nil, hs, hx, hr]
    have hge := grownCap_ge w (n + 1) cap e
    have hle := grownCap_le_maxLen w (n + 1) cap e (by unfold maxLen; omega)
    refine hK _ _ (h _ _ _ ⟨hlen, hge, hle, fun k hk => ⟨w.heap.size, 0, rfl, by simp, fun j v hj => ?_⟩, fun he => by cases he⟩ (fun x hx => by cases hx; exact hbase) (((Below.refl _ _).drew).alloc hbase _))
    rw [Nat.zero_add]
    have hnew : (w.drew.alloc (.cells ((cur.toList.take n).toArray ++ [u].toArray ++ Builtin.zeroCells z.cells (grownCap w (n + 1) cap e - (n + 1))) e)).heap[w.heap.size]? = some (.cells ((cur.toList.take n).toArray ++ [u].toArray ++ Builtin.zeroCells z.cells (grownCap w (n + 1) cap e - (n + 1))) e) := heap_new w.drew _
    unfold World.cell?
    rw [hnew]
    have hj' : j < (cur.toList.take n ++ [u]).length := (List.getElem?_eq_some_iff.1 hj).1
    simp only
    rw [Array.getElem?_append_left (by simpa using hj'), ← hj]
    simp
end
end Tt
