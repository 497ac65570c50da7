/- append onto what the call owns: the row lies where it lay, or in a new block. -/
import Derived.Test.YtheelhepelbgcaaL11
import Derived.ArgAppend
namespace Tt
open Go Go.RowKit
set_option linter.unusedVariables false

section
variable {P : Program} {w : World} {ops : Array Oper} {rest : List Oper} {o : Oper} {a : Act} {Q : Exit → Act → World → Prop}
theorem wpList_app2 (hgd : o.guard = none) (s x : Operand) (t : TypeId)
    (ho : o.op = .call { callee := .builtin .append, args := #[s, x], argTypes := #[t, t] })
    (base : Nat) (e : TypeId) (i : TypeInfo) (z : Value) (size bytes : Nat) (ht : P.underlying t = some (.slice e)) (hi : P.info? e = some i) (hz : i.zero = some z)
    (hsize : i.size = size) (hby : i.bytes = bytes) (hzs : z.cells.size = size) (hsz : 0 < size)
    (v : Value) (n : Nat) (xs : List Value) (hs : a.eval s = v) (hown : w.ownsRow base e size v n xs)
    (xa : Addr) (m c : Nat) (news : List Value) (hx : a.eval x = .slice (some xa) m c) (hS : Sl w (some xa) m c size news) (h1 : ∀ u ∈ news, u.oneCell' = true)
    (hbytes : (n + m) * bytes ≤ 140737488355328) (hb0 : 0 < bytes) (hbase : base ≤ w.heap.size)
    (h : ∀ (a' : Option Addr) (c' : Nat) (w' : World), w'.ownsRow base e size (.slice a' (n + m) c') (n + m) (xs ++ news) → w.grownBy w' v.ownBlock → (∀ k, (Value.slice a' (n + m) c').ownBlock = some k → v.ownBlock = some k ∨ w.heap.size ≤ k) → wpList P ops Q rest (a.put o.dst (.slice a' (n + m) c')) w') : wpList P ops Q (o :: rest) a w := by
  have h63 : n + m ≤ maxLen := by
    have : (n + m) * 1 ≤ (n + m) * bytes := Nat.mul_le_mul_left _ hb0
    unfold maxLen; omega
  have hv' : ∀ (B : Nat) (v' : Value) (w' : World), w'.ownsRow B e size v' (n + m) (xs ++ news) → ∃ (a' : Option Addr) (c' : Nat), v' = .slice a' (n + m) c' := by
    intro B v' w' hw
    rcases hw.2 with ⟨rfl, h0⟩ | ⟨g, cap, cur, rfl, _⟩
    · exact ⟨none, 0, by rw [h0]⟩
    · exact ⟨_, _, rfl⟩
  have hnews : ∀ j u, news[j]? = some u → w.cell? (xa.add j) = some u := fun j u hu => by
    have hj : j < news.length := (List.getElem?_eq_some_iff.1 hu).1
    have hm : 0 < m := by
      rcases Nat.eq_zero_or_pos m with h0 | h0
      · rw [hS.len, h0] at hj; omega
      · exact h0
    obtain ⟨b, off, e1, _, hc⟩ := hS.lies 0 hm
    injection e1 with e1
    subst e1
    rw [Addr.add_lit]
    exact hc j u hu
  have grow : ∀ (ao : Option Addr) (cap : Nat), v = .slice ao n cap → cap < n + m → wpList P ops Q (o :: rest) a w := fun ao cap hv hfull => by
    subst hv
    have hsl := (Sl.of_own hown).1
    refine wpList_append_grows w hgd s x t ho e i z size bytes ht hi hz hsize hby hzs hsz ao n cap xs hs (fun hn => ?_) hsl.len (fun b hb j u hj => ?_) xa m c news hx hS.len hnews h1 hfull h63 hbytes ?_
    · subst hn
      have := hsl.fit rfl
      have := hsl.le
      exact ⟨by omega, by omega⟩
    · subst hb
      have hj2 : j < xs.length := (List.getElem?_eq_some_iff.1 hj).1
      have hn0 : 0 < n := by
        rcases Nat.eq_zero_or_pos n with h0 | h0
        · rw [hsl.len, h0] at hj2; omega
        · exact h0
      obtain ⟨b', off, e1, _, hc⟩ := hsl.lies 0 hn0
      injection e1 with e1
      subst e1
      rw [Addr.add_lit]
      exact hc j u hj
    · intro v' w' h2 h3
      obtain ⟨a', c', rfl⟩ := hv' _ v' w' h2
      refine h _ _ w' (own_mono h2 hbase) ⟨h3.os, h3.tape, h3.output, h3.size, fun k hk _ => h3.block k hk (by simp)⟩ (fun k hk => .inr (h2.lt k hk).1)
  rcases hown.2 with ⟨hv, hn⟩ | ⟨g, cap, cur, hv, _⟩
  · by_cases hm : 0 < m
    · exact grow none 0 (by rw [hv, hn]) (by omega)
    · subst hv hn
      have hm0 : m = 0 := by omega
      have hn0 : news = [] := List.eq_nil_of_length_eq_zero (by rw [hS.len, hm0]; simp)
      have hx0 : xs = [] := List.eq_nil_of_length_eq_zero (by rw [hown.1]; simp)
      exact wpList_append_own w hgd s x t ho base e i z size bytes ht hi hz hsize hby hzs hsz (.slice none 0 0) 0 xs hs hown xa m c news hx hS.len hnews h1 h63 hbytes hbase fun v' w' h2 h3 h4 => by
        obtain rfl := h4.2 ⟨rfl, hm0⟩
        have := h none 0 w' (by rw [hm0]; rw [hm0] at h2; exact h2) h3 (fun k hk => by cases hk)
        rw [hm0] at this
        exact this
  · by_cases hfit : n + m ≤ cap
    · subst hv
      exact wpList_append_fits w hgd s x t ho base e i size ht hi hsize g n cap xs hs hown xa m c news hx hS.len hnews h1 hfit fun w' h2 h3 => h _ _ w' h2 h3 (fun k hk => .inl hk)
    · exact grow _ cap hv (by omega)
end
end Tt
