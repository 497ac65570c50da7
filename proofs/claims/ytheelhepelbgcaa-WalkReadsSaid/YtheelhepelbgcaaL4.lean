/- Steps of a region that draws its order: append onto an owned row; a row that is written in two places. -/
import Derived.Test.YtheelhepelbgcaaL3
import Derived.Deep.RegionLaw
import Derived.Deep.CutRange
import Derived.Deep.Cut
import Derived.BigRegion
namespace Tt
open Go Go.RowKit
set_option linter.unusedVariables false
set_option linter.unusedSimpArgs false

section
variable {P : Program} {w : World} {ops : Array Oper} {o : Oper} {a : Act} {K : Act → World → Prop} {Q : Exit → Act → World → Prop} {G : Prop}
/-- 'append(s, x...)' onto what the call owns, as a step of a region that draws. -/
theorem step_app (hgd : o.guard = none) (s x : Operand) (t : TypeId)
    (ho : o.op = .call { callee := .builtin .append, args := #[s, x], argTypes := #[t, t] })
    (base : Nat) (e : TypeId) (i : TypeInfo) (z : Value) (size bytes : Nat) (ht : P.underlying t = some (.slice e)) (hi : P.info? e = some i) (hz : i.zero = some z)
    (hsize : i.size = size) (hby : i.bytes = bytes) (hzs : z.cells.size = size) (hsz : 0 < size)
    (v : Value) (n : Nat) (xs : List Value) (hs : a.eval s = v) (hown : w.ownsRow base e size v n xs)
    (xa : Option Addr) (m c : Nat) (news : List Value) (hx : a.eval x = .slice xa m c) (hS : Sl w xa m c size news) (h1 : ∀ u ∈ news, u.oneCell' = true)
    (hbytes : (n + m) * bytes ≤ 140737488355328) (hb0 : 0 < bytes) (hbase : base ≤ w.heap.size)
    (h : ∀ (a' : Option Addr) (c' : Nat) (w' : World), w'.ownsRow base e size (.slice a' (n + m) c') (n + m) (xs ++ news) → Below base w w' → w.grownBy w' v.ownBlock → K (a.put o.dst (.slice a' (n + m) c')) w') :
    if Region.wanted o (yielded ops a.tmps) = true then Oper.wp P o a w K Q else G := by
  have hw : Region.wanted o (yielded ops a.tmps) = true := by simp [Region.wanted, hgd]
  rw [if_pos hw]
  have h63 : n + m ≤ maxLen := by
    have : (n + m) * 1 ≤ (n + m) * bytes := Nat.mul_le_mul_left _ hb0
    unfold maxLen; omega
  have hv' : ∀ (v' : Value) (w' : World), w'.ownsRow base e size v' (n + m) (xs ++ news) → ∃ (a' : Option Addr) (c' : Nat), v' = .slice a' (n + m) c' := by
    intro v' w' hw
    rcases hw.2 with ⟨rfl, h0⟩ | ⟨g, cap, cur, rfl, _⟩
    · exact ⟨none, 0, by rw [h0]⟩
    · exact ⟨_, _, rfl⟩
  cases xa with
  | none =>
    have hc := hS.fit rfl
    subst hc
    have hm : m = 0 := by have := hS.le; omega
    subst hm
    have hn0 : news = [] := List.eq_nil_of_length_eq_zero (by rw [hS.len]; simp)
    subst hn0
    rw [Nat.add_zero, List.append_nil] at h
    have hrun := run_append_owned_none (P := P) (w := w) base t o.type e i size ht hi v n xs hown
    obtain ⟨a', c', rfl⟩ := hv' v w (by simpa using hown)
    simp only [Nat.add_zero] at hrun hs hown h
    unfold Oper.wp
    simp [execOp, ho, resolve, invoke, builtin, hs, hx, hrun, Result.andThen]
    exact h _ _ w hown (Below.refl _ _) (World.grownBy.refl _ _)
  | some ad =>
    have hnews : ∀ j u, news[j]? = some u → w.cell? (ad.add j) = some u := by
      intro j u hu
      have hj : j < news.length := (List.getElem?_eq_some_iff.1 hu).1
      have hm : 0 < m := by
        rcases Nat.eq_zero_or_pos m with h0 | h0
        · rw [hS.len, h0] at hj; omega
        · exact h0
      obtain ⟨b, off, e1, _, hc⟩ := hS.lies 0 hm
      injection e1 with e1
      subst e1
      rw [Addr.add_lit]
      exact hc j u hu
    obtain ⟨v', w', hrun, h2, h3, _⟩ := run_append_own (P := P) w base t o.type e i z size bytes ht hi hz hsize hby hzs hsz v n xs hown ad m c news hS.len hnews h1 h63 hbytes hbase
    obtain ⟨a', c', rfl⟩ := hv' v' w' h2
    unfold Oper.wp
    simp [execOp, ho, resolve, invoke, builtin, hs, hx, hrun, Result.andThen]
    exact h _ _ w' h2 (below_grown (Below.refl _ _) h3 hbase hown) h3
end

/-- An owned row of one-cell elements: its places. -/
theorem own_place {w : World} {B : Nat} {E : TypeId} {a : Option Addr} {n c m : Nat} {xs : List Value} (h : w.ownsRow B E 1 (.slice a n c) m xs) {i : Nat} (hi : i < n) :
    ∃ g, a = some ⟨g, 0, none⟩ ∧ B ≤ g ∧ g < w.heap.size ∧ (∀ j, w.frozen? ⟨g, j, none⟩ = false) ∧ ∀ j v, xs[j]? = some v → w.cell? ⟨g, j, none⟩ = some v := by
  obtain ⟨hs, hm⟩ := Sl.of_own h
  subst hm
  obtain ⟨b, off, rfl, hlt, hc⟩ := hs.at hi
  rcases h.2 with ⟨hv, _⟩ | ⟨g, cap, cur, hv, hB, hg, _⟩
  · cases hv
  · injection hv with h1 h2 h3
    injection h1 with h1
    injection h1 with h1 h4
    subst h1 h4
    exact ⟨b, rfl, hB, hlt, fun j => by simp [World.frozen?, hg], fun j v hj => by have := hc j v hj; rwa [Nat.zero_add] at this⟩
theorem own_set {w : World} {B : Nat} {E : TypeId} {g n c m : Nat} {xs : List Value} (h : w.ownsRow B E 1 (.slice (some ⟨g, 0, none⟩) n c) m xs) (i : Nat) (u : Value) : (w.setCell ⟨g, i, none⟩ u).ownsRow B E 1 (.slice (some ⟨g, 0, none⟩) n c) m (xs.set i u) := by
  obtain ⟨hl, hr⟩ := h
  refine ⟨by rw [List.length_set]; exact hl, ?_⟩
  rcases hr with ⟨hv, _⟩ | ⟨g', cap, cur, hv, hB, hg, hnc, hcm, hcs, htk⟩
  · cases hv
  · injection hv with h1 h2 h3
    injection h1 with h1
    injection h1 with h1
    subst h1
    refine .inr ⟨g, cap, cur.setIfInBounds i u, by rw [h2, h3], hB, by simp [World.setCell, Array.getElem?_modify, hg], hnc, hcm, by simp [hcs], ?_⟩
    rw [← htk]
    simp [List.take_set]
end Tt
