/- Slices with two and three bounds, clear and append in place: of elements of more cells. -/
import Derived.Test.YtnhcmibngcmebaaCp
namespace Tt
open Go Go.RowKit
set_option linter.unusedVariables false
set_option linter.unusedSimpArgs false
section
variable {P : Program} {T E : TypeId} {sz : Nat} (ht : P.underlying T = some (.slice E)) (hE : ∀ w, (Go.sizeOf E).run P w = .ok sz w)
include ht hE
theorem slice_lh_at (g o n c l h : Nat) (l' h' : Int) (hl' : l' = l) (hh' : h' = h) (h1 : l ≤ h) (h2 : h ≤ c) (hc : l < c) : ∀ W, (Instr.sliceAt T (.slice (some ⟨g, o, none⟩) n c) (some (.int .i64 l')) (some (.int .i64 h')) none).run P W = .ok (.slice (some ⟨g, o + l * sz, none⟩) (h - l) (c - l)) W := by
  have he : P.elem T = E := by unfold Program.elem; rw [ht]
  intro W
  rw [run_sliceAt_slice (h := by rw [he]; exact ht), run_slice_lh (ht := by rw [he]; exact ht) (h0 := by omega) (h1 := by omega) (h2 := by omega), he, hE]
  have e : l'.toNat = l := by omega
  have e2 : h'.toNat = h := by omega
  simp only [Result.andThen, sliced, e, e2]
  rw [if_neg (by omega)]
  simp [Addr.add_lit]
theorem slice_lhm_ok (a : Option Addr) (n c l h m : Nat) (l' h' m' : Int) (hl' : l' = l) (hh' : h' = h) (hm' : m' = m) (h1 : l ≤ h) (h2 : h ≤ m) (h3 : m ≤ c) : ∃ v, ∀ W, (Instr.sliceAt T (.slice a n c) (some (.int .i64 l')) (some (.int .i64 h')) (some (.int .i64 m'))).run P W = .ok v W := by
  have he : P.elem T = E := by unfold Program.elem; rw [ht]
  refine ⟨sliced a l'.toNat h'.toNat m'.toNat sz, fun W => ?_⟩
  rw [run_sliceAt_slice (h := by rw [he]; exact ht), run_slice_lhm (ht := by rw [he]; exact ht) (h0 := by omega) (h1 := by omega) (h2 := by omega) (h3 := by omega), he, hE]
  rfl
theorem slice_l_end (g o n : Nat) (l' : Int) (hl' : l' = n) : ∀ W, (Instr.sliceAt T (.slice (some ⟨g, o, none⟩) n n) (some (.int .i64 l')) none none).run P W = .ok (.slice (some ⟨g, o, none⟩) 0 0) W := by
  have he : P.elem T = E := by unfold Program.elem; rw [ht]
  intro W
  rw [run_sliceAt_slice (h := by rw [he]; exact ht), run_slice_l (ht := by rw [he]; exact ht) (h0 := by omega) (h1 := by omega), he, hE]
  have e : l'.toNat = n := by omega
  simp only [Result.andThen, sliced, e, Nat.sub_self]
  simp
end
section
variable {P : Program}
theorem run_clear_row (w : World) (t e ty : TypeId) (z : Value) (ht : P.underlying t = some (.slice e)) (hv : ∀ w, (zeroValue e).run P w = .ok z w) (g o n c : Nat) (hn : 0 < n) (cur : Array Value) (T : TypeId) (hg : w.heap[g]? = some (.cells cur T (0, 0))) (zs : List Value) (hz : (Builtin.zeroCells z.cells n).toList = zs)
    (h1 : ∀ v ∈ zs, v.oneCell' = true) (hfit : o + zs.length ≤ cur.size) :
    (Builtin.clear_ #[t] ty #[.slice (some ⟨g, o, none⟩) n c]).run P w = .ok (.tuple #[]) (w.setRow g (splice cur.toList o zs).toArray) := by
  have hst := run_storeCells_at P g o T zs 0 cur w hg (by simpa using hfit) h1
  simp only [Nat.add_zero] at hst
  obtain ⟨m, rfl⟩ : ∃ m, n = m + 1 := ⟨n - 1, by omega⟩
  simp [Builtin.clear_, run_underlying ht, hv, hz, hst, splice]
theorem wp_clear_run (w : World) {o : Oper} {a : Act} {K : Act → World → Prop} {Q : Exit → Act → World → Prop} (s : Operand) (t : TypeId)
    (ho : o.op = .call { callee := .builtin .clear, args := #[s], argTypes := #[t] }) (v : Value) (hs : a.eval s = v) {v' : Value} {w' : World}
    (hr : (Builtin.clear_ #[t] o.type #[v]).run P w = .ok v' w') (h : K (a.put o.dst v') w') : o.wp P a w K Q := by
  unfold Oper.wp execOp
  simp only [ho, resolve, invoke, builtin, Sem.run_bind, Sem.run_pure, Result.andThen_ok, List.map_toArray, List.map_cons, List.map_nil, hs, hr]
  exact h
theorem wpList_clear_run (w : World) {ops : Array Oper} {rest : List Oper} {o : Oper} {a : Act} {Q : Exit → Act → World → Prop} (hgd : o.guard = none) (s : Operand) (t : TypeId)
    (ho : o.op = .call { callee := .builtin .clear, args := #[s], argTypes := #[t] }) (v : Value) (hs : a.eval s = v) {v' : Value} {w' : World}
    (hr : (Builtin.clear_ #[t] o.type #[v]).run P w = .ok v' w') (h : wpList P ops Q rest (a.put o.dst v') w') : wpList P ops Q (o :: rest) a w :=
  wpList_plain hgd fun _ hK => wp_clear_run w s t ho v hs hr (hK _ _ h)
theorem step_append_run {ops : Array Oper} {o : Oper} {a : Act} {w : World} {K : Act → World → Prop} {Q : Exit → Act → World → Prop} {E : Prop}
    (hg : o.guard = none) (d x : Operand) (t : TypeId) (hop : o.op = Op.call { callee := Callee.builtin Builtin.append, args := #[d, x], argTypes := #[t, t] })
    (v u : Value) (hd : a.eval d = v) (hx : a.eval x = u) {v' : Value} {w' : World} (hr : (Builtin.append_ #[t, t] o.type #[v, u]).run P w = .ok v' w') (hK : K (a.put o.dst v') w') :
    if Region.wanted o (yielded ops a.tmps) = true then Oper.wp P o a w K Q else E := by
  have hw : Region.wanted o (yielded ops a.tmps) = true := by simp [Region.wanted, hg]
  rw [if_pos hw]
  exact Lib.wp_append_run w d x t t hop v u hd hx v' w' hr hK
end
theorem splice_left {α : Type} {L E : List α} {k m : Nat} (hm : m ≤ k) (hk : k ≤ L.length) : (splice L k E).take m = L.take m := by
  unfold splice
  rw [List.take_append_of_le_length (by simp; omega), List.take_take, Nat.min_eq_left hm]
end Tt
