/- Chapter 22: entries that are the same; what is kept while a directory is read. -/
import Derived.Test.YtheelhepelbgcaaWk7
import Derived.Laws.StructEq
namespace Go.Proofs.Ytheelhepelbgcaa
open Go.RowKit Tt
set_option linter.unusedVariables false
set_option linter.unusedSimpArgs false
def fs4 (fs : Array Field) : List (String × TypeId × Nat) := fs.toList.map fun f => (f.name, f.type, f.offset)
theorem fx : fs4 (Try.prog.fieldsOf 105) = [("Tag", 3, 0), ("Type", 3, 1), ("Count", 3, 2), ("Slot", 3, 3)] := by kernel_rfl
theorem fs_int {P : Program} {d : Nat} {T : TypeId} {kk : IntKind} (hT : P.underlying T = some (.int kk)) (hA : ∀ W, (isAgg T).run P W = .ok false W) (xs ys : Array Value) (W : World) : ∀ (fs : List Field) (l : List (String × Nat × Int × Int)), fs.map (fun f => (f.name, f.type, f.offset)) = l.map (fun q => (q.1, T, q.2.1)) → (∀ q ∈ l, q.1 ≠ "_" ∧ xs[q.2.1]? = some (.int .i64 q.2.2.1) ∧ ys[q.2.1]? = some (.int .i64 q.2.2.2)) →
    (Op.eqFields (d + 1) xs ys fs).run P W = .ok (l.all fun q => q.2.2.1 == q.2.2.2) W
  | [], l, h, _ => by
    cases l with
    | nil => rfl
    | cons q l => simp at h
  | f :: fs, [], h, _ => by simp at h
  | f :: fs, q :: l, h, hq => by
    simp only [List.map_cons, List.cons.injEq, Prod.mk.injEq] at h
    obtain ⟨⟨h1, h2, h3⟩, h4⟩ := h
    obtain ⟨g1, g2, g3⟩ := hq q (by simp)
    have ih := fs_int (d := d) hT hA xs ys W fs l h4 (fun q hq' => hq q (List.mem_cons_of_mem _ hq'))
    simp only [Op.eqFields]
    rw [h1, if_pos g1, h2, h3]
    simp only [Sem.run_bind, part, hA, Result.andThen_ok, g2, g3, Bool.false_eq_true, if_false, Sem.run_pure, run_equalIn_int W d T .i64 kk q.2.2.1 q.2.2.2 hT, List.all_cons]
    cases hb : (q.2.2.1 == q.2.2.2)
    · simp
    · simp [ih]
theorem ent_eql (x y : Ent) (W : World) : (binOp .eql 105 (.agg #[.int .i64 x.1, .int .i64 x.2.1, .int .i64 x.2.2.1, .int .i64 x.2.2.2]) (.agg #[.int .i64 y.1, .int .i64 y.2.1, .int .i64 y.2.2.1, .int .i64 y.2.2.2])).run Try.prog W = .ok (.bool (decide (x = y))) W := by
  have hfx := fx
  unfold fs4 at hfx
  rw [run_eql_struct, run_equalIn_agg W 9999 _ _ _ (by kernel_rfl) (by kernel_rfl), fs_int (T := 3) (kk := .i64) Try.underlying3 (fun W => by kernel_rfl) _ _ W _ [("Tag", 0, x.1, y.1), ("Type", 1, x.2.1, y.2.1), ("Count", 2, x.2.2.1, y.2.2.1), ("Slot", 3, x.2.2.2, y.2.2.2)] hfx (by simp)]
  simp only [Result.andThen]
  refine congrArg (fun b => Result.ok (Value.bool b) W) ?_
  rw [Bool.eq_iff_iff]
  obtain ⟨a, b, c, d⟩ := x
  obtain ⟨a', b', c', d'⟩ := y
  simp
theorem kp_or {X X' Y : Nat → Prop} {B : Nat} {w w' : World} (h : Kp X X' B w w') : Kp (fun k => X k ∨ Y k) (fun k => X' k ∨ Y k) B w w' :=
  ⟨h.size, fun k hB hk hx => ⟨(h.block k hB hk (fun e => hx (.inl e))).1, fun e => e.elim (h.block k hB hk (fun e => hx (.inl e))).2 (fun e => hx (.inr e))⟩⟩
theorem kp_mono {X X' : Nat → Prop} {B B' : Nat} {w w' : World} (h : Kp X X' B w w') (hB : B ≤ B') : Kp X X' B' w w' := ⟨h.size, fun k hk => h.block k (Nat.le_trans hB hk)⟩
theorem kp_but {X : Nat → Prop} {B g : Nat} {w w' : World} (h : But g w w') (hg : g < B) : Kp X X B w w' := ⟨h.size, fun k hB hk hx => ⟨h.block k hk (by omega), hx⟩⟩
/-- a row that is read, in a block from B to B' that X does not name -/
structure Sk (X : Nat → Prop) (B B' : Nat) (w : World) (v : Value) (sz n : Nat) (cs : List Value) : Prop where
  at_ : ∃ a c, v = .slice a n c ∧ Sl w a n c sz cs ∧ ∀ x, a = some x → B ≤ x.block ∧ x.block < B' ∧ ¬ X x.block
theorem sl_heap {w w' : World} {a : Option Addr} {n c sz : Nat} {cs : List Value} (h : Sl w a n c sz cs) (hs : w.heap.size ≤ w'.heap.size) (hb : ∀ x, a = some x → x.block < w.heap.size → w'.heap[x.block]? = w.heap[x.block]?) : Sl w' a n c sz cs :=
  ⟨h.len, h.le, h.max, fun i hi => by
    obtain ⟨g, off, e, hlt, hc⟩ := h.lies i hi
    refine ⟨g, off, e, Nat.lt_of_lt_of_le hlt hs, fun j v hv => ?_⟩
    have h1 := hc j v hv
    have h2 := hb _ e hlt
    unfold World.cell? at h1 ⊢
    rw [h2]
    exact h1, h.fit⟩
theorem Sk.keep {X X' : Nat → Prop} {B B' : Nat} {w w' : World} {v : Value} {sz n : Nat} {cs : List Value} (h : Sk X B B' w v sz n cs) (k : Kp X X' B w w') (hB : B' ≤ w.heap.size) : Sk X' B B' w' v sz n cs := by
  obtain ⟨a, c, rfl, h1, h2⟩ := h.at_
  exact ⟨a, c, rfl, sl_heap h1 k.size (fun x hx hlt => (k.block x.block (h2 x hx).1 hlt (h2 x hx).2.2).1), fun x hx => ⟨(h2 x hx).1, (h2 x hx).2.1, (k.block x.block (h2 x hx).1 (by have := (h2 x hx).2.1; omega) (h2 x hx).2.2).2⟩⟩
/-- another row, from B' on, has grown -/
theorem Sk.grown {X : Nat → Prop} {B B' : Nat} {w w' : World} {v : Value} {sz n : Nat} {cs : List Value} {row : Option Nat} (h : Sk X B B' w v sz n cs) (hg : w.grownBy w' row) (hr : ∀ k, row = some k → B' ≤ k) : Sk X B B' w' v sz n cs := by
  obtain ⟨a, c, rfl, h1, h2⟩ := h.at_
  exact ⟨a, c, rfl, sl_heap h1 hg.size (fun x hx hlt => hg.block _ hlt (fun e => by have := hr _ e.symm; have := (h2 x hx).2.1; omega)), h2⟩
theorem Sk.of_own {X : Nat → Prop} {B B' : Nat} {w : World} {v : Value} {E : TypeId} {sz n : Nat} {xs : List Value} (h : w.ownsRow B E sz v n xs) (hB : w.heap.size ≤ B') (hX : ∀ k, v.ownBlock = some k → ¬ X k) : Sk X B B' w v sz n xs := by
  have hlt := h.lt
  rcases h.2 with ⟨rfl, h0⟩ | ⟨g, cap, cur, rfl, hr⟩
  · subst h0
    exact ⟨none, 0, rfl, (Sl.of_own h).1, fun x hx => by cases hx⟩
  · exact ⟨_, _, rfl, (Sl.of_own h).1, fun x hx => by
      injection hx with hx
      subst hx
      have := hlt g rfl
      exact ⟨this.1, by show g < B'; omega, hX g rfl⟩⟩
theorem own_tags_ne {X : Nat → Prop} {B B2 : Nat} {w w' : World} {v u : Value} {ts : List Tgs} {E : TypeId} {sz n : Nat} {xs : List Value} (h : TagsAt X B w v ts) (hu : w.ownsRow B2 E sz u n xs) (hg : w.grownBy w' u.ownBlock) (h1 : 59 ≠ E) (h2 : 5 ≠ E) : TagsAt X B w' v ts := by
  obtain ⟨zs, e, h3, h4⟩ := h
  have key : ∀ {T : TypeId} {v' : Value} {s n : Nat} {ys : List Value}, w.ownsRow B T s v' n ys → T ≠ E → w'.ownsRow B T s v' n ys := fun h hT => own_grown h hg (fun k hk hk2 => by
    rcases own_apart h hu hT with h5 | h5
    · rw [h5] at hk; cases hk
    · exact h5 (hk.trans hk2.symm))
  exact ⟨zs, e, ⟨key h3.1 h1, h3.2⟩, fun z hz => ⟨key (h4 z hz).1 h2, (h4 z hz).2⟩⟩
/-- sub-directories in memory -/
def SubsAt (X : Nat → Prop) (B : Nat) (w : World) (f : Nat) (v : Value) (subs : List (Int × DirT f)) : Prop :=
  ∃ ds : List (Int × Dz), ds.length = subs.length ∧ Ck X B w v 90 4 ds.length (fl sbC ds) ∧ (∀ d ∈ ds, oneZ d.2) ∧ ∀ i (h : i < ds.length) (h' : i < subs.length), ds[i].1 = subs[i].1 ∧ DirAt (fun k => X k ∨ v.ownBlock = some k) B w f subs[i].2 ds[i].2
theorem SubsAt.keep {X X' : Nat → Prop} {B f : Nat} {w w' : World} {v : Value} {subs : List (Int × DirT f)} (h : SubsAt X B w f v subs) (k : Kp X X' B w w') : SubsAt X' B w' f v subs := by
  obtain ⟨ds, h1, h2, h0, h3⟩ := h
  exact ⟨ds, h1, h2.keep k, h0, fun i hi hi' => ⟨(h3 i hi hi').1, (h3 i hi hi').2.keep (kp_or k)⟩⟩
theorem SubsAt.snoc {X : Nat → Prop} {B f : Nat} {w w' : World} {v v' : Value} {subs : List (Int × DirT f)} {t : Int} {d : DirT f} {dz : Dz} {n : Nat} (h : SubsAt X B w f v subs) (hn : subs.length = n) (hg : w.grownBy w' v.ownBlock) (ho : ∀ k, v'.ownBlock = some k → v.ownBlock = some k ∨ w.heap.size ≤ k)
    (ob : ∀ ds : List (Int × Dz), w.ownsRow B 90 4 v n (fl sbC ds) → w'.ownsRow B 90 4 v' (n + 1) (fl sbC ds ++ sbC (t, dz))) (hX : ∀ k, v'.ownBlock = some k → ¬ X k) (h1 : oneZ dz) (hd : DirAt (fun k => X k ∨ v.ownBlock = some k) B w f d dz) : SubsAt X B w' f v' (subs ++ [(t, d)]) := by
  obtain ⟨ds, h2, h3, h0, h4⟩ := h
  have hk : Kp (fun k => X k ∨ v.ownBlock = some k) (fun k => X k ∨ v'.ownBlock = some k) B w w' := ⟨hg.size, fun k hB hk hx => ⟨hg.block k hk (fun e => hx (.inr e.symm)), fun e => e.elim (fun e => hx (.inl e)) (fun e => by rcases ho k e with e' | e' <;> first | exact hx (.inr e') | omega)⟩⟩
  have hdn : ds.length = n := h2.trans hn
  refine ⟨ds ++ [(t, dz)], by simp [h2], ⟨?_, hX⟩, ?_, fun i hi hi' => ?_⟩
  · rw [List.length_append, fl_snoc, List.length_singleton, hdn]
    exact ob ds (by rw [← hdn]; exact h3.1)
  · intro d' hd'
    rcases List.mem_append.1 hd' with h | h
    · exact h0 d' h
    · rw [List.mem_singleton.1 h]; exact h1
  · by_cases hi2 : i < ds.length
    · rw [List.getElem_append_left hi2, List.getElem_append_left (by omega)]
      exact ⟨(h4 i hi2 (by omega)).1, (h4 i hi2 (by omega)).2.keep hk⟩
    · have hie : i = ds.length := by simp at hi; omega
      subst hie
      rw [List.getElem_append_right (Nat.le_refl _), List.getElem_append_right (by omega)]
      simp only [Nat.sub_self, List.getElem_cons_zero, h2]
      exact ⟨trivial, hd.keep hk⟩
end Go.Proofs.Ytheelhepelbgcaa
