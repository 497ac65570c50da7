/- Chapter 29: rows of places: read, owned; Clone. -/
import Derived.Test.YthcecnolmhillaaPl4
namespace Go.Proofs.Ythcecnolmhillaa
open Go.RowKit Tt
set_option linter.unusedVariables false

/-- attributes, size, at, two dependencies -/
abbrev Pl := Int × Int × Int × Int × Int
abbrev plz : Pl := (0, 0, 0, 0, 0)
def pc (p : Pl) : List Value := [.int .i64 p.1, .int .i64 p.2.1, .int .i64 p.2.2.1, .int .i64 p.2.2.2.1, .int .i64 p.2.2.2.2]
def pcs (ps : List Pl) : List Value := ps.flatMap pc
theorem pc_len (p : Pl) : (pc p).length = 5 := rfl
theorem pcs_cons (p : Pl) (r : List Pl) : pcs (p :: r) = pc p ++ pcs r := rfl
theorem pcs_append (x y : List Pl) : pcs (x ++ y) = pcs x ++ pcs y := by simp [pcs]
theorem pcs_len : ∀ (ps : List Pl), (pcs ps).length = ps.length * 5
  | [] => rfl
  | p :: r => by rw [pcs_cons, List.length_append, pcs_len r, pc_len, List.length_cons]; omega
theorem pcs_get : ∀ {ps : List Pl} {i j : Nat}, i < ps.length → j < 5 → (pcs ps)[i * 5 + j]? = (pc (ps.getD i plz))[j]?
  | p :: r, 0, j, _, hj => by rw [pcs_cons, List.getElem?_append_left (by rw [pc_len]; omega), Nat.zero_mul, Nat.zero_add]; rfl
  | p :: r, i + 1, j, hi, hj => by
    rw [pcs_cons, List.getElem?_append_right (by rw [pc_len]; omega), pc_len, show (i + 1) * 5 + j - 5 = i * 5 + j by omega, pcs_get (by simpa using hi) hj]
    rfl
theorem pcs_set : ∀ {ps : List Pl} {i j : Nat} {v : Value} {p' : Pl}, j < 5 → (pc (ps.getD i plz)).set j v = pc p' → (pcs ps).set (i * 5 + j) v = pcs (ps.set i p')
  | [], i, j, v, p', _, _ => rfl
  | p :: r, 0, j, v, p', hj, h => by
    rw [pcs_cons, Nat.zero_mul, Nat.zero_add, List.set_append_left _ _ (by rw [pc_len]; exact hj)]
    rw [List.set_cons_zero, pcs_cons, ← h]
    rfl
  | p :: r, i + 1, j, v, p', hj, h => by
    rw [pcs_cons, List.set_append_right _ _ (by rw [pc_len]; omega), pc_len, show (i + 1) * 5 + j - 5 = i * 5 + j by omega, List.set_cons_succ, pcs_cons, pcs_set hj (by simpa using h)]
theorem pcs_one {ps : List Pl} : ∀ u ∈ pcs ps, u.oneCell' = true := by
  intro u hu
  obtain ⟨p, _, hp⟩ := List.mem_flatMap.1 hu
  simp only [pc, List.mem_cons, List.not_mem_nil, or_false] at hp
  rcases hp with rfl | rfl | rfl | rfl | rfl <;> rfl
theorem Ps.ilen {w : World} {a : Option Addr} {n c : Nat} {ps : List Pl} (h : Sl w a n c 5 (pcs ps)) : ps.length = n := by
  have := h.len
  rw [pcs_len] at this
  omega
theorem Ps.at {w : World} {a : Option Addr} {n c : Nat} {ps : List Pl} (h : Sl w a n c 5 (pcs ps)) {k : Nat} (hk : k < n) :
    ∃ b o, a = some ⟨b, o, none⟩ ∧ b < w.heap.size ∧ w.cell? ⟨b, o + k * 5, none⟩ = some (.int .i64 (ps.getD k plz).1) ∧ w.cell? ⟨b, o + k * 5 + 1, none⟩ = some (.int .i64 (ps.getD k plz).2.1) ∧
      w.cell? ⟨b, o + k * 5 + 2, none⟩ = some (.int .i64 (ps.getD k plz).2.2.1) ∧ w.cell? ⟨b, o + k * 5 + 3, none⟩ = some (.int .i64 (ps.getD k plz).2.2.2.1) ∧ w.cell? ⟨b, o + k * 5 + 4, none⟩ = some (.int .i64 (ps.getD k plz).2.2.2.2) := by
  have hl := Ps.ilen h
  obtain ⟨b, o, rfl, hb, hc⟩ := h.at hk
  have g := fun j hj => pcs_get (ps := ps) (i := k) (j := j) (by omega) hj
  exact ⟨b, o, rfl, hb, hc (k * 5 + 0) _ (g 0 (by omega)), hc _ _ (g 1 (by omega)), hc _ _ (g 2 (by omega)), hc _ _ (g 3 (by omega)), hc _ _ (g 4 (by omega))⟩

theorem infoP : (Try.prog.info? 35).map (fun i => (i.size, i.bytes)) = some (5, 40) := by kernel_rfl
theorem infoPz : (Try.prog.info? 35).map (fun i => i.zero.map (fun z => z.cells.size)) = some (some 5) := by kernel_rfl
theorem infoP_parts : ∃ (i : TypeInfo) (z : Value), Try.prog.info? 35 = some i ∧ i.zero = some z ∧ i.size = 5 ∧ i.bytes = 40 ∧ z.cells.size = 5 := by
  have h1 := infoP
  have h2 := infoPz
  revert h1 h2
  cases Try.prog.info? 35 with
  | none => intro h1 _; cases h1
  | some i =>
    intro h1 h2
    simp only [Option.map_some, Option.some.injEq, Prod.mk.injEq] at h1 h2
    cases hz : i.zero with
    | none => rw [hz] at h2; cases h2
    | some z => rw [hz] at h2; simp only [Option.map_some, Option.some.injEq] at h2; exact ⟨i, z, rfl, hz, h1.1, h1.2, h2⟩

theorem own_setN {w : World} {B : Nat} {E : TypeId} {sz g n c m : Nat} {xs : List Value} (h : w.ownsRow B E sz (.slice (some ⟨g, 0, none⟩) n c) m xs) (i : Nat) (u : Value) : (w.setCell ⟨g, i, none⟩ u).ownsRow B E sz (.slice (some ⟨g, 0, none⟩) n c) m (xs.set i u) := by
  obtain ⟨hl, hr⟩ := h
  refine ⟨by rw [List.length_set]; exact hl, ?_⟩
  rcases hr with ⟨hv, _⟩ | ⟨g', cap, cur, hv, hB, hg, hnc, hcm, hcs, htk⟩
  · cases hv
  · injection hv with h1 h2 h3
    injection h1 with h1
    injection h1 with h1
    subst h1
    refine .inr ⟨g, cap, cur.setIfInBounds i u, by rw [h2, h3], hB, by simp [World.setCell, Array.getElem?_modify, hg], hnc, hcm, by simp [hcs], ?_⟩
    rw [← htk]
    simp [List.take_set]
theorem own_placeN {w : World} {B : Nat} {E : TypeId} {sz : Nat} {a : Option Addr} {n c m : Nat} {xs : List Value} (h : w.ownsRow B E sz (.slice a n c) m xs) {i : Nat} (hi : i < n) :
    ∃ g, a = some ⟨g, 0, none⟩ ∧ B ≤ g ∧ g < w.heap.size ∧ (∀ j, w.frozen? ⟨g, j, none⟩ = false) ∧ ∀ j v, xs[j]? = some v → w.cell? ⟨g, j, none⟩ = some v := by
  obtain ⟨hs, hm⟩ := Sl.of_own h
  subst hm
  obtain ⟨b, off, rfl, hlt, hc⟩ := hs.at hi
  rcases h.2 with ⟨hv, _⟩ | ⟨g, cap, cur, hv, hB, hg, _⟩
  · cases hv
  · injection hv with h1 h2 h3
    injection h1 with h1
    injection h1 with h1 h4
    subst h1 h4
    exact ⟨b, rfl, hB, hlt, fun j => by simp [World.frozen?, hg], fun j v hj => by have := hc j v hj; rwa [Nat.zero_add] at this⟩

attribute [local go_sem] Lib.run_eql_slice_nil
set_option maxHeartbeats 1000000 in
theorem pclone_any (a : Option Addr) (n c : Nat) (ps : List Pl) (w : World) (hs : Sl w a n c 5 (pcs ps)) (hl : n ≤ 1000000) :
    Calls Try.prog 19 #[.slice a n c] w fun e w' => ∃ a' c', e = .returned (.slice a' n c') ∧ w'.ownsRow w.heap.size 35 5 (.slice a' n c') n (pcs ps) ∧ Below w.heap.size w w' := by
  obtain ⟨i0, z0, hi, hz, hz1, hz2, hz3⟩ := infoP_parts
  cases a with
  | none =>
    have hc := hs.fit rfl
    subst hc
    have hn : n = 0 := by have := hs.le; omega
    subst hn
    have hp : ps = [] := List.eq_nil_of_length_eq_zero (Ps.ilen hs)
    subst hp
    clear hs
    go_enter Try.func19, Try.ntmps19
    go_wp2
    go_ret
    exact ⟨_, _, rfl, own_nil _ _ _ _, Below.refl _ _⟩
  | some ad =>
    have Hs := Lib.hid hs
    clear hs
    go_enter Try.func19, Try.ntmps19
    go_wp2_with (at_builtin; refine wpList_app rfl _ _ 23 rfl w.heap.size 35 i0 z0 5 40 Try.underlying23 hi hz hz1 hz2 hz3 (by decide) _ 0 [] rfl (own_new w w.heap.size 35 5 0 #[] (Nat.le_refl _) (by unfold maxLen; omega) rfl) _ n c _ rfl (sl_alloc Hs.out _) pcs_one (by omega) (by decide) (by simp) ?_; intro a5 c5 w2 ob hb2 hg2; rw [Nat.zero_add] at ob ⊢; rw [List.nil_append] at ob; clear hg2; have Ob := Lib.hid ob; have Hb2 := Lib.hid (((Below.refl _ _).alloc (Nat.le_refl _) _).trans hb2); clear ob hb2)
    go_ret
    exact ⟨_, _, rfl, Ob.out, Hb2.out⟩
end Go.Proofs.Ythcecnolmhillaa
