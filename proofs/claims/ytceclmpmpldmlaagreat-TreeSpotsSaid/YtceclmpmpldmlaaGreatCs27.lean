/- Chapter 21: a tree that has the shapes has its place: plain. | Chapter 21: what the document puts of a directory: plain words. | Chapter 21: what the document writes stands apart; in another order it is what the program writes: the same bytes. Plain. -/
import Derived.Test.YtceclmpmpldmlaaGreatCs26
namespace Go.Proofs.YtceclmpmpldmlaaGreat
open Go.RowKit Tt
set_option linter.unusedVariables false
set_option linter.unusedSimpArgs false

theorem rises_pair {α : Type} (g : α → Int) (z : α) : ∀ l : List α, (∀ k, k + 1 < l.length → g (l.getD k z) < g (l.getD (k + 1) z)) → l.Pairwise fun x y => g x < g y
  | [], _ => List.Pairwise.nil
  | x :: r, h => by
    have ih := rises_pair g z r fun k hk => by simpa using h (k + 1) (by simpa using hk)
    refine List.Pairwise.cons (fun y hy => ?_) ih
    cases r with
    | nil => cases hy
    | cons u r =>
      have h0 : g x < g u := by simpa using h 0 (by simp)
      rcases List.mem_cons.1 hy with rfl | hy
      · exact h0
      · exact Int.lt_trans h0 ((List.pairwise_cons.1 ih).1 y hy)
theorem pair_rises {α : Type} (g : α → Int) (z : α) {l : List α} (h : l.Pairwise fun x y => g x < g y) {i j : Nat} (hij : i < j) (hj : j < l.length) : g (l.getD i z) < g (l.getD j z) := by
  rw [getD_el (by omega), getD_el hj]; exact List.pairwise_iff_getElem.1 h i j (by omega) hj hij
theorem mem_getD {α : Type} {l : List α} {x : α} (h : x ∈ l) (z : α) : ∃ k, k < l.length ∧ l.getD k z = x := by
  obtain ⟨k, hk, rfl⟩ := List.getElem_of_mem h; exact ⟨k, hk, getD_el hk _⟩
structure HasF (L : List Shp) (f : Nat) (d : DirT (f + 1)) (i : Int) : Prop where
  e1 : 1 ≤ entN d.1.length d.2.1.length d.2.2.length
  e2 : entN d.1.length d.2.1.length d.2.2.length ≤ 65535
  bl : d.2.2.length = 0 ∨ (L.getD i.toNat shp0).2.1 ≠ 0
  tg : ∀ x ∈ d.1, tagB x.1 = true ∧ ownP (L.getD i.toNat shp0) x.1 = false ∧ okT x = true
  rt : d.1.Pairwise fun x y => x.1 < y.1
  sb : ∀ j, j < d.2.1.length → linkP (L.getD i.toNat shp0) (d.2.1.getD j (0, dirZ f)).1 = true ∧ hasS L f (d.2.1.getD j (0, dirZ f)).2 (subI (L.getD i.toNat shp0) (d.2.1.getD j (0, dirZ f)).1) = true
  rs : d.2.1.Pairwise fun x y => x.1 < y.1
theorem hasF_iff {L : List Shp} {f : Nat} {d : DirT (f + 1)} {i : Int} : hasS L (f + 1) d i = true ↔ HasF L f d i := by
  rw [hasS_succ, Bool.and_eq_true, Bool.and_eq_true]
  constructor
  · rintro ⟨⟨h1, h2⟩, h3⟩
    unfold hasH at h1; simp only [Bool.and_eq_true, Bool.or_eq_true, Bool.not_eq_true', decide_eq_true_eq, decide_eq_false_iff_not] at h1; unfold ownB at h2; have ht : ∀ k, k < d.1.length → tgB (L.getD i.toNat shp0) d.1 k = true := fun k hk => List.all_eq_true.1 h2 k (List.mem_range.2 hk); have hs : ∀ k, k < d.2.1.length → sbB (hasS L f) (L.getD i.toNat shp0) d.2.1 k = true := fun k hk => List.all_eq_true.1 h3 k (List.mem_range.2 hk); unfold tgB at ht; unfold sbB at hs; simp only [Bool.and_eq_true, Bool.or_eq_true, Bool.not_eq_true', decide_eq_true_eq] at ht hs; refine ⟨h1.1.1, h1.1.2, h1.2, fun x hx => ?_, rises_pair _ tg0 _ fun k hk => ?_, fun j hj => ⟨(hs j hj).1.1, (hs j hj).2⟩, rises_pair _ (0, dirZ f) _ fun k hk => ?_⟩
    · obtain ⟨k, hk, rfl⟩ := mem_getD hx tg0
      have := ht k hk; exact ⟨this.1.1.1, this.1.2, this.2⟩
    · rcases (ht (k + 1) hk).1.1.2 with h | h
      · omega
      · exact h
    · rcases (hs (k + 1) hk).1.2 with h | h
      · omega
      · exact h
  · intro h
    refine ⟨⟨?_, ?_⟩, ?_⟩
    · unfold hasH
      simp only [Bool.and_eq_true, Bool.or_eq_true, Bool.not_eq_true', decide_eq_true_eq, decide_eq_false_iff_not]; exact ⟨⟨h.e1, h.e2⟩, h.bl⟩
    · unfold ownB
      refine rng_yes fun k hk => ?_; unfold tgB; simp only [Bool.and_eq_true, Bool.or_eq_true, Bool.not_eq_true', decide_eq_true_eq]; have hm : d.1.getD k tg0 ∈ d.1 := by rw [getD_el hk]; exact List.getElem_mem hk
      have := h.tg _ hm; refine ⟨⟨⟨this.1, ?_⟩, this.2.1⟩, this.2.2⟩
      cases k with
      | zero => exact .inl rfl
      | succ k => exact .inr (pair_rises _ tg0 h.rt (by omega) hk)
    · refine rng_yes fun k hk => ?_
      unfold sbB; simp only [Bool.and_eq_true, Bool.or_eq_true, decide_eq_true_eq]; refine ⟨⟨(h.sb k hk).1, ?_⟩, (h.sb k hk).2⟩
      cases k with
      | zero => exact .inl rfl
      | succ k => exact .inr (pair_rises _ (0, dirZ f) h.rs (by omega) hk)
theorem hasS_dis {L : List Shp} : ∀ (f : Nat) (d : DirT f) (i : Int), hasS L f d i = true → DisD f d
  | 0, _, _, _ => trivial
  | f + 1, d, i, h => by
    have hf := hasF_iff.1 h; refine ⟨hf.rt.imp fun {a b} hab e => by omega, fun s hs => ?_⟩; obtain ⟨j, hj, rfl⟩ := mem_getD hs (0, dirZ f); exact hasS_dis f _ _ (hf.sb j hj).2
theorem link_pair {n i : Nat} {s : Shp} (h : shapeB n i s = true) {t : Int} (hl : linkP s t = true) : pairP s t = false ∧ 0 ≤ t ∧ t < 65536 := by
  unfold linkP at hl; obtain ⟨y, hy, he⟩ := List.any_eq_true.1 hl; obtain ⟨k, hk, rfl⟩ := mem_getD hy (0, 0); have := shapeB_lk h hk; unfold linkB tagB at this; simp only [Bool.and_eq_true, Bool.not_eq_true', decide_eq_true_eq] at this; have e : (s.1.getD k (0, 0)).1 = t := by simpa using he
  rw [e] at this; unfold pairP; exact ⟨this.2, this.1.1.1.1, this.1.1.1.2⟩
theorem pair_in {n i : Nat} {s : Shp} (h : shapeB n i s = true) (h0 : s.2.1 ≠ 0) : pairP s s.2.1 = true ∧ pairP s s.2.2.1 = true ∧ 1 ≤ s.2.1 ∧ s.2.1 < s.2.2.1 ∧ s.2.2.1 < 65536 := by
  have := shapeB_pair h; unfold pairP
  simp
  omega
theorem subE_fst (f : Nat) (l : List Spt) (ss : List (Int × DirT f)) (no : Int) : (subE f l ss no ss.length).map (·.1) = ss.map (·.1) := by
  unfold subE; rw [List.map_map]; refine List.ext_getElem (by simp) fun k h1 h2 => ?_; have hk : k < ss.length := by simpa using h2
  simp only [List.getElem_map, List.getElem_range, Function.comp]
  show (ss.getD k (0, dirZ f)).1 = _
  rw [getD_el hk]
theorem entT_fst (l : List Spt) (o no : Int) (ts : List Tgs) : (ts.map (entT l o no)).map (·.1) = ts.map (·.1) := by
  rw [List.map_map]; rfl
theorem entsD_keys {L : List Shp} {n : Nat} {f : Nat} {d : DirT (f + 1)} {i : Int} (l : List Spt) (o no : Int) (h : HasF L f d i) (hs : shapeB n i.toNat (L.getD i.toNat shp0) = true) :
    (entsD f l o no (L.getD i.toNat shp0) d).Pairwise fun x y => x.1 ≠ y.1 := by
  rw [← List.pairwise_map (f := fun (x : Ent) => x.1) (R := fun a b => a ≠ b)]; unfold entsD; rw [List.map_append, List.map_append, subE_fst, entT_fst]
  show List.Nodup _
  rw [List.nodup_append, List.nodup_append]
  have hB : ∀ t ∈ (blobE l (L.getD i.toNat shp0) d.2.2 no).map (·.1), pairP (L.getD i.toNat shp0) t = true := fun t ht => by
    unfold blobE at ht
    split at ht
    · rename_i hb
      have hp := pair_in hs (by rcases h.bl with h | h; omega; exact h)
      simp at ht
      rcases ht with rfl | rfl
      · exact hp.1
      · exact hp.2.1
    · simp at ht
  have hS : ∀ t ∈ d.2.1.map (·.1), linkP (L.getD i.toNat shp0) t = true := fun t ht => by
    obtain ⟨s, hs, rfl⟩ := List.mem_map.1 ht; obtain ⟨j, hj, rfl⟩ := mem_getD hs (0, dirZ f); exact (h.sb j hj).1
  have hT : ∀ t ∈ d.1.map (·.1), ownP (L.getD i.toNat shp0) t = false := fun t ht => by
    obtain ⟨s, hs, rfl⟩ := List.mem_map.1 ht; exact (h.tg s hs).2.1
  refine ⟨⟨nodup_map_of (h.rt.imp fun {a b} hab e => by omega), nodup_map_of (h.rs.imp fun {a b} hab e => by omega), ?_⟩, ?_, ?_⟩
  · intro a ha b hb e
    have h1 := hT a ha; have h2 := hS b hb; subst e; unfold ownP at h1; rw [h2] at h1; exact absurd h1 (by simp)
  · unfold blobE
    split
    · rename_i hb
      have hp := pair_in hs (by rcases h.bl with h | h; omega; exact h); refine List.nodup_cons.2 ⟨fun hm => ?_, List.nodup_cons.2 ⟨fun hm => (by cases hm), List.nodup_nil⟩⟩; have hm2 : (L.getD i.toNat shp0).2.1 = (L.getD i.toNat shp0).2.2.1 := by simpa using hm
      omega
    · exact List.nodup_nil
  · intro a ha b hb e
    subst e; have h2 := hB a hb
    rcases List.mem_append.1 ha with ha | ha
    · have h1 := hT a ha
      unfold ownP at h1; rw [h2] at h1; exact absurd h1 (by simp)
    · have h1 := (link_pair hs (hS a ha)).1
      rw [h2] at h1
      cases h1
theorem fits_at {l : List Spt} {n k : Nat} {a b c : Int} (h : Fits l n a b c k) : 0 ≤ atS l a b c ∧ atS l a b c + k ≤ n := by
  obtain ⟨_, h1, h2⟩ := h
  omega
theorem okW_of {L : List Shp} (hL : shapesB L = true) {l : List Spt} {n : Nat} {o : Int} (ho : o = 1 ∨ o = 2) (hn : n ≤ 4294967295) : ∀ (f : Nat) (d : DirT f) (no i : Int), 0 ≤ i → i < L.length → hasS L f d i = true → bytD f d →
    (∀ a b c m, ((a, b, c, m) : Itm) ∈ itmD f d no → ∀ k : Nat, (k : Int) ≤ m → Fits l n a b c k) → okW L l n o f d no i
  | 0, _, _, _, _, _, _, _, _ => trivial
  | f + 1, d, no, i, h0, h1, hh, hby, hF => by
    have hf := hasF_iff.1 hh; have hs := shapesB_get hL (i := i.toNat) (by omega)
    have hfit : ∀ x ∈ d.1, inlV x o = true ∨ (1 ≤ (bytesV x o).length ∧ Fits l n 3 no x.1 (bytesV x o).length) := fun x hx => by
      have hx3 := hf.tg x hx
      by_cases hz : outS x.2.1 x.2.2.1 = 0
      · exact .inl (by rw [inlV_iff hx3.2.2 ho hx3.1, hz]; rfl)
      · have hl := outS_len hx3.2.2 ho hz
        refine .inr ⟨by omega, hF 3 no x.1 (outV x) ?_ _ (by unfold outV; omega)⟩; rw [itmD_succ]; refine List.mem_cons_of_mem _ (List.mem_append.2 (.inl ?_)); refine List.mem_map.2 ⟨x, List.mem_filter.2 ⟨hx, ?_⟩, rfl⟩; unfold outV; have := outV_nn x; unfold outV at this
        simp
        omega
    have hel := entsD_len f l o no (L.getD i.toNat shp0) d; have hF2 : Fits l n 2 no 0 (6 + 12 * entN d.1.length d.2.1.length d.2.2.length) := hF 2 no 0 _ (by rw [itmD_succ]; exact List.mem_cons_self ..) _ (by omega)
    have hFB : 0 < d.2.2.length → Fits l n 4 no 0 d.2.2.length := fun hb => hF 4 no 0 _ (by
      rw [itmD_succ]; refine List.mem_cons_of_mem _ (List.mem_append.2 (.inr (List.mem_append.2 (.inr ?_)))); unfold itmB; rw [if_pos hb]; exact List.mem_cons_self ..) _ (Int.le_refl _)
    have hsub : ∀ j, j < d.2.1.length → (∀ a b c m, ((a, b, c, m) : Itm) ∈ itmD f (d.2.1.getD j (0, dirZ f)).2 (subN f d.2.1 no j) → ((a, b, c, m) : Itm) ∈ itmD (f + 1) d no) := fun j hj a b c m hx => by
      rw [itmD_succ]; exact List.mem_cons_of_mem _ (List.mem_append.2 (.inr (List.mem_append.2 (.inl (itmSs_get hj _ hx)))))
    have hsi : ∀ j, j < d.2.1.length → 0 ≤ subI (L.getD i.toNat shp0) (d.2.1.getD j (0, dirZ f)).1 ∧ subI (L.getD i.toNat shp0) (d.2.1.getD j (0, dirZ f)).1 < L.length := fun j hj => by
      have := subI_ok hL (i := i.toNat) (by omega) (hf.sb j hj).1
      omega
    have hFS : ∀ j, j < d.2.1.length → 0 ≤ atS l 2 (subN f d.2.1 no j) 0 ∧ atS l 2 (subN f d.2.1 no j) 0 ≤ n := fun j hj => by
      have hh2 := (hf.sb j hj).2
      cases f with
      | zero => exact absurd hh2 (by simp [hasS])
      | succ f =>
        have := fits_at (hF 2 (subN (f + 1) d.2.1 no j) 0 _ (hsub j hj _ _ _ _ (by rw [itmD_succ]; exact List.mem_cons_self ..)) 0 (by omega))
        omega
    refine ⟨fun x hx => ⟨hfit x hx, ?_⟩, fun j hj => ⟨(hf.sb j hj).1, okW_of hL ho hn f _ _ _ (hsi j hj).1 (hsi j hj).2 (hf.sb j hj).2 ?_ fun a b c m hx k hk => hF a b c m (hsub j hj a b c m hx) k hk⟩, hFB, ?_, by rw [hel]; exact hf.e1, by rw [hel]; exact hf.e2, ho, entsD_keys l o no hf hs, ?_⟩
    · have := (mayF (hf.tg x hx).2.2 ho).small; omega
    · refine hby.2.1 _ ?_
      rw [getD_el hj]; exact List.getElem_mem hj
    · obtain ⟨a1, a2, a3⟩ := hF2
      exact ⟨a1, a2, by rw [hel]; omega⟩
    · intro x hx
      have hk : ∀ {a b : Int} (s : Int), 0 ≤ a → a < topS s → putOk a s o = true := fun s h1 h2 => (putOk_iff ho).2 ⟨h1, h2⟩; unfold entOk; simp only [Bool.and_eq_true]; unfold entsD at hx
      rcases List.mem_append.1 hx with hx | hx
      · rcases List.mem_append.1 hx with hx | hx
        · obtain ⟨t, ht, rfl⟩ := List.mem_map.1 hx
          have h3 := hf.tg t ht; have hm := mayF h3.2.2 ho; have ht0 := h3.1; unfold tagB at ht0
          simp at ht0
          have hm1 := hm.y1; have hm2 := hm.y2; have hm3 := hm.k1; have hm4 := hm.k2; refine ⟨⟨⟨(putOk_iff ho).2 ?_, (putOk_iff ho).2 ?_⟩, (putOk_iff ho).2 ?_⟩, (putOk_iff ho).2 ?_⟩
          · show 0 ≤ t.1 ∧ t.1 < 65536; omega
          · show 0 ≤ t.2.1 ∧ t.2.1 < 65536; omega
          · show 0 ≤ t.2.2.1 ∧ t.2.2.1 < 4294967296; omega
          · show 0 ≤ (if inlV t o = true then getV (padB (bytesV t o)) 0 4 o else atS l 3 no t.1) ∧ (if inlV t o = true then getV (padB (bytesV t o)) 0 4 o else atS l 3 no t.1) < 4294967296
            by_cases hi : inlV t o = true
            · rw [if_pos hi]
              exact slot_bound (hby.1 t ht) h3.2.2 ho hi
            · rw [if_neg hi]
              rcases hfit t ht with h | ⟨_, h⟩
              · exact absurd h hi
              · have := fits_at h; omega
        · unfold subE at hx
          obtain ⟨j, hj, rfl⟩ := List.mem_map.1 hx; have hj := List.mem_range.1 hj; have hlp := (link_pair hs (hf.sb j hj).1).2; have := hFS j hj; refine ⟨⟨⟨(putOk_iff ho).2 ?_, (putOk_iff ho).2 ?_⟩, (putOk_iff ho).2 ?_⟩, (putOk_iff ho).2 ?_⟩
          · show 0 ≤ (d.2.1.getD j (0, dirZ f)).1 ∧ (d.2.1.getD j (0, dirZ f)).1 < 65536; omega
          · show (0 : Int) ≤ 4 ∧ (4 : Int) < 65536; decide
          · show (0 : Int) ≤ 1 ∧ (1 : Int) < 4294967296; decide
          · show 0 ≤ atS l 2 (subN f d.2.1 no j) 0 ∧ atS l 2 (subN f d.2.1 no j) 0 < 4294967296; omega
      · unfold blobE at hx
        split at hx
        · rename_i hb
          have hp := pair_in hs (by rcases hf.bl with h | h; omega; exact h); have hfb := fits_at (hFB hb); simp only [List.mem_cons, List.not_mem_nil, or_false] at hx
          rcases hx with rfl | rfl
          · refine ⟨⟨⟨(putOk_iff ho).2 ?_, (putOk_iff ho).2 ?_⟩, (putOk_iff ho).2 ?_⟩, (putOk_iff ho).2 ?_⟩
            · show 0 ≤ (L.getD i.toNat shp0).2.1 ∧ (L.getD i.toNat shp0).2.1 < 65536; omega
            · show (0 : Int) ≤ 4 ∧ (4 : Int) < 65536; decide
            · show (0 : Int) ≤ 1 ∧ (1 : Int) < 4294967296; decide
            · show 0 ≤ atS l 4 no 0 ∧ atS l 4 no 0 < 4294967296; omega
          · refine ⟨⟨⟨(putOk_iff ho).2 ?_, (putOk_iff ho).2 ?_⟩, (putOk_iff ho).2 ?_⟩, (putOk_iff ho).2 ?_⟩
            · show 0 ≤ (L.getD i.toNat shp0).2.2.1 ∧ (L.getD i.toNat shp0).2.2.1 < 65536; omega
            · show (0 : Int) ≤ 4 ∧ (4 : Int) < 65536; decide
            · show (0 : Int) ≤ 1 ∧ (1 : Int) < 4294967296; decide
            · show 0 ≤ ((d.2.2.length : Nat) : Int) ∧ ((d.2.2.length : Nat) : Int) < 4294967296; omega
        · cases hx
theorem chk_of {f : Nat} {o : Int} {ds : List (DirT f)} {L : List Shp} (h : checkS f o ds L = 0) : shapesB L = true ∧ (o = 1 ∨ o = 2) ∧ ds.length ≠ 0 ∧ chainB L ds.length = true ∧ hasAll L f ds = true ∧ longT f ds ≠ 0 := by
  unfold checkS at h
  split at h
  · rename_i h1
    split at h
    · rename_i h2
      split at h
      · rename_i h3
        split at h
        · exact absurd h (by decide)
        · rename_i h4
          simp only [Bool.and_eq_true, Bool.or_eq_true, Bool.not_eq_true', decide_eq_true_eq, decide_eq_false_iff_not] at h1; exact ⟨h1.1.1, h1.1.2, h1.2, h2, h3, h4⟩
      · exact absurd h (by decide)
    · exact absurd h (by decide)
  · exact absurd h (by decide)
theorem long_of {f : Nat} {ds : List (DirT f)} (h : longT f ds ≠ 0) : fitT f ds = true ∧ longT f ds = endS (layT f ds) ∧ endS (layT f ds) ≤ 4294967295 := by
  unfold longT at h ⊢
  split at h
  · rename_i hf
    rw [if_pos hf]; refine ⟨hf, rfl, ?_⟩; unfold fitT at hf; simp only [Bool.and_eq_true, decide_eq_true_eq] at hf; exact hf.2
  · exact absurd rfl h
theorem hasAll_get {L : List Shp} {f : Nat} {ds : List (DirT f)} (h : hasAll L f ds = true) {k : Nat} (hk : k < ds.length) : hasS L f (ds.getD k (dirZ f)) (nxtS L k) = true := List.all_eq_true.1 h k (List.mem_range.2 hk)
theorem hasAll_dis {L : List Shp} {f : Nat} {ds : List (DirT f)} (h : hasAll L f ds = true) : ∀ d ∈ ds, DisD f d := fun d hd => by
  obtain ⟨k, hk, rfl⟩ := mem_getD hd (dirZ f); exact hasS_dis f _ _ (hasAll_get h hk)
theorem chain_nx {L : List Shp} {n k : Nat} (h : chainB L n = true) (hk : k < n) : 0 ≤ nxtS L k := by
  have := List.all_eq_true.1 h k (List.mem_range.2 hk)
  simpa using this
theorem itmT_get {f : Nat} {ds : List (DirT f)} {k : Nat} (hk : k < ds.length) : ∀ x ∈ itmD f (ds.getD k (dirZ f)) (noT f ds k), x ∈ itmT f ds := fun x hx => by
  refine List.mem_cons_of_mem _ (itmSs_get (j := k) (by simpa [prs] using hk) x ?_)
  have e1 : ((prs f ds).getD k (0, dirZ f)).2 = ds.getD k (dirZ f) := by
    rw [getD_el (by simpa [prs] using hk), getD_el hk]; simp [prs]
  have e2 : (0 : Int) + (flats f ((prs f ds).take k)).length = noT f ds k := by
    have : (prs f ds).take k = prs f (ds.take k) := by unfold prs; rw [List.map_take]
    rw [this, flats_prs]; unfold noT
    omega
  rw [e1, e2]; exact hx
theorem endT_ge (f : Nat) (ds : List (DirT f)) : 8 ≤ endS (layT f ds) := by
  rw [(layT_eq f ds).2]; have := endP_le (itmSs (itmD f) (prs f ds) 0) 8 (by decide) fun x hx => itmT_nn f ds x (List.mem_cons_of_mem _ hx); exact this
theorem hasS_ent {L : List Shp} {f : Nat} {d : DirT f} {i : Int} (h : hasS L f d i = true) (no : Int) : ((2, no, 0, 6 + 12 * ((entD f d : Nat) : Int)) : Itm) ∈ itmD f d no := by
  cases f with
  | zero => exact absurd h (by simp [hasS])
  | succ f => rw [itmD_succ]; exact List.mem_cons_self ..
theorem okt_of {f : Nat} {o : Int} {ds : List (DirT f)} {L : List Shp} (h : checkS f o ds L = 0) (hb : ∀ d ∈ ds, bytD f d) : OKT f o ds L := by
  obtain ⟨h1, h2, h3, h4, h5, h6⟩ := chk_of h; obtain ⟨g1, g2, g3⟩ := long_of h6; have hd := hasAll_dis h5; have h8 := endT_ge f ds; have hN : (longT f ds).toNat ≤ 4294967295 := by omega
  have hF : ∀ k, k < ds.length → ∀ a b c m, ((a, b, c, m) : Itm) ∈ itmD f (ds.getD k (dirZ f)) (noT f ds k) → ∀ q : Nat, (q : Int) ≤ m → Fits (layT f ds) (longT f ds).toNat a b c q := fun k hk a b c m hx q hq =>
    fits_of hd (itmT_get hk _ hx) (by omega) hq
  have hE : ∀ k, k < ds.length → Fits (layT f ds) (longT f ds).toNat 2 (noT f ds k) 0 (6 + 12 * entD f (ds.getD k (dirZ f))) := fun k hk => hF k hk 2 _ 0 _ (hasS_ent (hasAll_get h5 hk) _) _ (by omega); refine ⟨h1, h2, by omega, by omega, g1, fun k hk => chain_nx h4 hk, fun k hk => ?_, fun k hk => ?_, fun k hk => ?_⟩
  · have hnx := chain_nx h4 hk
    have hnl := (nxt_lt h1 k).1; refine okW_of h1 h2 hN f _ _ _ hnx hnl (hasAll_get h5 hk) (hb _ ?_) (hF k hk); rw [getD_el hk]; exact List.getElem_mem hk
  · cases k with
    | zero => show 0 ≤ (4 : Int) ∧ (4 : Int).toNat + 4 ≤ _; omega
    | succ k =>
      have := fits_at (hE k (by omega))
      show 0 ≤ atS (layT f ds) 2 (noT f ds k) 0 + 2 + 12 * ((entD f (ds.getD k (dirZ f)) : Nat) : Int) ∧ (atS (layT f ds) 2 (noT f ds k) 0 + 2 + 12 * ((entD f (ds.getD k (dirZ f)) : Nat) : Int)).toNat + 4 ≤ (longT f ds).toNat
      omega
  · have := fits_at (hE k hk)
    refine (putOk_iff h2).2 ?_; rw [show topS 4 = 4294967296 by decide]
    omega
end Go.Proofs.YtceclmpmpldmlaaGreat

namespace Go.Proofs.YtceclmpmpldmlaaGreat
open Go.RowKit Tt
set_option linter.unusedVariables false
set_option linter.unusedSimpArgs false

/-- how many entries stand ahead of one -/
def aheadE (es : List Ent) (x : Ent) : Nat := (es.filter fun y => decide (y.1 < x.1)).length
def rowQ (q : Nat) (o : Int) (es : List Ent) (n : Nat) : List Pt := (List.range n).map fun i => (q + 2 + 12 * aheadE es (es.getD i ent0), entW (es.getD i ent0) o)
/-- what the document puts of a directory, without what lies within -/
def putP (f : Nat) (l : List Spt) (o no : Int) (s : Shp) (d : DirT (f + 1)) : List Pt :=
  d.1.flatMap (patV l o no) ++ blobP l d.2.2 no ++ (((atS l 2 no 0).toNat, putS (entsD f l o no s d).length 2 o) :: rowQ (atS l 2 no 0).toNat o (entsD f l o no s d) (entsD f l o no s d).length)
theorem aheadE_lt {es : List Ent} {i : Nat} (h : i < es.length) : aheadE es (es.getD i ent0) < es.length := by
  unfold aheadE; rw [List.length_filter_lt_length_iff_exists]; refine ⟨es.getD i ent0, by rw [getD_el h]; exact List.getElem_mem h, by simp⟩
end Go.Proofs.YtceclmpmpldmlaaGreat

namespace Go.Proofs.YtceclmpmpldmlaaGreat
open Go.RowKit Tt
set_option linter.unusedVariables false
set_option linter.unusedSimpArgs false

theorem filt_lt {α : Type} {p q : α → Bool} : ∀ {l : List α}, (∀ z ∈ l, p z = true → q z = true) → ∀ {x : α}, x ∈ l → q x = true → p x = false → (l.filter p).length < (l.filter q).length
  | [], _, _, h, _, _ => by cases h
  | a :: l, hpq, x, hx, hq, hp => by
    have hle : (l.filter p).length ≤ (l.filter q).length := by
      rw [← List.countP_eq_length_filter, ← List.countP_eq_length_filter]; exact List.countP_mono_left fun z hz => hpq z (List.mem_cons_of_mem _ hz)
    rcases List.mem_cons.1 hx with rfl | hx
    · rw [List.filter_cons_of_pos hq, List.filter_cons_of_neg (by simp [hp]), List.length_cons]
      omega
    · have ih := filt_lt (fun z hz => hpq z (List.mem_cons_of_mem _ hz)) hx hq hp
      cases ha : p a with
      | true =>
        rw [List.filter_cons_of_pos ha, List.filter_cons_of_pos (hpq a (List.mem_cons_self ..) ha), List.length_cons, List.length_cons]
        omega
      | false =>
        rw [List.filter_cons_of_neg (by simp [ha])]
        cases hb : q a with
        | true => rw [List.filter_cons_of_pos hb, List.length_cons]; omega
        | false => rw [List.filter_cons_of_neg (by simp [hb])]; exact ih
theorem ahead_lt {es : List Ent} {x y : Ent} (hx : x ∈ es) (h : x.1 < y.1) : aheadE es x < aheadE es y := by
  unfold aheadE; refine filt_lt (fun z _ hz => ?_) hx (by simpa using h) (by simp); simp only [decide_eq_true_eq] at hz ⊢
  omega
theorem ahead_sorted : ∀ {l : List Ent}, (l.Pairwise fun x y => x.1 < y.1) → ∀ {i : Nat} (h : i < l.length), (l.filter fun y => decide (y.1 < (l[i]).1)).length = i
  | [], _, _, h => by simp at h
  | a :: l, hp, 0, _ => by
    obtain ⟨h1, _⟩ := List.pairwise_cons.1 hp
    have : (a :: l).filter (fun y => decide (y.1 < a.1)) = [] := by
      rw [List.filter_eq_nil_iff]; intro y hy
      rcases List.mem_cons.1 hy with rfl | hy
      · simp
      · have := h1 y hy
        simp; omega
    show ((a :: l).filter fun y => decide (y.1 < a.1)).length = 0
    rw [this]; rfl
  | a :: l, hp, i + 1, h => by
    obtain ⟨h1, h2⟩ := List.pairwise_cons.1 hp; have hi : i < l.length := by simpa using h
    have := ahead_sorted h2 hi
    show ((a :: l).filter fun y => decide (y.1 < (l[i]).1)).length = i + 1
    rw [List.filter_cons_of_pos (by simpa using h1 _ (List.getElem_mem hi)), List.length_cons, this]
theorem range_map_getD {α β : Type} (g : α → β) (z : α) (l : List α) : (List.range l.length).map (fun i => g (l.getD i z)) = l.map g := by
  refine List.ext_getElem (by simp) fun i h1 h2 => ?_; have h3 : i < l.length := by simpa using h1
  rw [List.getElem_map, List.getElem_range, List.getElem_map, getD_el h3]
theorem sortE_perm (l : List Ent) : (sortE l).Perm l := List.mergeSort_perm _ _
theorem sortE_lt {l : List Ent} (hd : l.Pairwise fun x y => x.1 ≠ y.1) : (sortE l).Pairwise fun x y => x.1 < y.1 := by
  have h1 : (sortE l).Pairwise fun x y => x.1 ≠ y.1 := ((sortE_perm l).pairwise_iff (fun {_ _} h => Ne.symm h)).2 hd
  have h2 : (sortE l).Pairwise fun x y => (!Go.Proofs.ltOf cfE y x) = true := by
    refine List.pairwise_mergeSort ?_ ?_ _
    · intro a b c h1 h2
      simp only [ltE, Bool.not_eq_true', decide_eq_false_iff_not] at h1 h2 ⊢
      omega
    · intro a b
      simp only [ltE, Bool.or_eq_true, Bool.not_eq_true', decide_eq_false_iff_not]
      omega
  refine (h1.and h2).imp fun {a b} h => ?_; obtain ⟨h3, h4⟩ := h; simp only [ltE, Bool.not_eq_true', decide_eq_false_iff_not] at h4
  omega
def rowE (q : Nat) (o : Int) (es : List Ent) (x : Ent) : Pt := (q + 2 + 12 * aheadE es x, entW x o)
theorem rowQ_eq (q : Nat) (o : Int) (es : List Ent) : rowQ q o es es.length = es.map (rowE q o es) := range_map_getD (rowE q o es) ent0 es
theorem rowP_eq {q : Nat} {o : Int} {es : List Ent} (hd : es.Pairwise fun x y => x.1 ≠ y.1) : rowP q o (sortE es) es.length = (sortE es).map (rowE q o es) := by
  rw [← range_map_getD (rowE q o es) ent0, sortE_len]; unfold rowP; refine List.map_congr_left fun i hi => ?_; have hi : i < (sortE es).length := by rw [sortE_len]; exact List.mem_range.1 hi
  have h1 := ahead_sorted (sortE_lt hd) hi
  have h2 : aheadE es ((sortE es).getD i ent0) = i := by
    rw [getD_el hi]; unfold aheadE; rw [← ((sortE_perm es).filter _).length_eq]; exact h1
  unfold rowE; rw [h2]
theorem row_perm {q : Nat} {o : Int} {es : List Ent} (hd : es.Pairwise fun x y => x.1 ≠ y.1) : (rowP q o (sortE es) es.length).Perm (rowQ q o es es.length) := by
  rw [rowP_eq hd, rowQ_eq]; exact (sortE_perm es).map _
/-- what the document writes of a directory and all within it -/
def dirQ (L : List Shp) (l : List Spt) (o : Int) : (f : Nat) → DirT f → Int → Int → List Pt
  | 0, _, _, _ => []
  | f + 1, d, no, i => subP (dirQ L l o f) (L.getD i.toNat shp0) d.2.1 no d.2.1.length ++ putP f l o no (L.getD i.toNat shp0) d
theorem dirQ_succ (L : List Shp) (l : List Spt) (o : Int) (f : Nat) (d : DirT (f + 1)) (no i : Int) : dirQ L l o (f + 1) d no i =
    subP (dirQ L l o f) (L.getD i.toNat shp0) d.2.1 no d.2.1.length ++ putP f l o no (L.getD i.toNat shp0) d := rfl
theorem dir_perm {L : List Shp} {l : List Spt} {n : Nat} {o : Int} : ∀ (f : Nat) (d : DirT f) (no i : Int), okW L l n o f d no i → (dirW L l o f d no i).Perm (dirQ L l o f d no i)
  | 0, _, _, _, _ => List.Perm.refl _
  | f + 1, d, no, i, h => by
    obtain ⟨_, hs, _, _, _, _, _, hk, _⟩ := okW_succ h; rw [dirW_succ, dirQ_succ]; unfold putP headP
    have h1 : (subP (dirW L l o f) (L.getD i.toNat shp0) d.2.1 no d.2.1.length).Perm (subP (dirQ L l o f) (L.getD i.toNat shp0) d.2.1 no d.2.1.length) :=
      flatMap_perm _ fun j hj => dir_perm f _ _ _ (hs j (List.mem_range.1 hj)).2
    have h2 := (row_perm (q := (atS l 2 no 0).toNat) (o := o) hk).cons ((atS l 2 no 0).toNat, putS ((entsD f l o no (L.getD i.toNat shp0) d).length : Nat) 2 o)
    have h3 : (d.1.flatMap (patV l o no) ++ subP (dirW L l o f) (L.getD i.toNat shp0) d.2.1 no d.2.1.length).Perm (subP (dirQ L l o f) (L.getD i.toNat shp0) d.2.1 no d.2.1.length ++ d.1.flatMap (patV l o no)) :=
      List.perm_append_comm.trans (h1.append (List.Perm.refl _))
    rw [← List.append_assoc, ← List.append_assoc]; exact (h3.append (List.Perm.refl _)).append h2
theorem flatMap_two {α β : Type} (f g : α → List β) : ∀ l : List α, (l.flatMap fun x => f x ++ g x).Perm (l.flatMap f ++ l.flatMap g)
  | [] => List.Perm.refl _
  | x :: l => by
    rw [List.flatMap_cons, List.flatMap_cons, List.flatMap_cons]; refine ((List.Perm.refl (f x ++ g x)).append (flatMap_two f g l)).trans ?_; rw [List.append_assoc, List.append_assoc]; refine (List.Perm.refl (f x)).append ?_; rw [← List.append_assoc, ← List.append_assoc]; exact List.perm_append_comm.append (List.Perm.refl _)
def linkP2 (l : List Spt) (o : Int) (f : Nat) (ds : List (DirT f)) (k : Nat) : Pt := ((lnkT l f ds k).toNat, putS (atS l 2 (noT f ds k) 0) 4 o)
def nextQ (l : List Spt) (o : Int) (f : Nat) (ds : List (DirT f)) (k : Nat) : List Pt := if k + 1 < ds.length then [linkP2 l o f ds (k + 1)] else []
def chQ (L : List Shp) (l : List Spt) (o : Int) (f : Nat) (ds : List (DirT f)) (n : Nat) : List Pt :=
  (List.range n).flatMap fun k => dirQ L l o f (ds.getD k (dirZ f)) (noT f ds k) (nxtS L k) ++ nextQ l o f ds k
theorem range_next {β : Type} (B : Nat → β) (m : Nat) : ((List.range (m + 1)).flatMap fun k => if k + 1 < m + 1 then [B (k + 1)] else []) = (List.range m).map fun k => B (k + 1) := by
  rw [List.range_succ, List.flatMap_append]; have h1 : ([m].flatMap fun k => if k + 1 < m + 1 then [B (k + 1)] else []) = [] := by simp
  rw [h1, List.append_nil]
  have h2 : ∀ q, q ≤ m → ((List.range q).flatMap fun k => if k + 1 < m + 1 then [B (k + 1)] else []) = (List.range q).map fun k => B (k + 1) := by
    intro q
    induction q with
    | zero => intro _; rfl
    | succ q ih =>
      intro hq; rw [List.range_succ, List.flatMap_append, List.map_append, ih (by omega)]
      simp
      omega
  exact h2 m (Nat.le_refl _)
theorem ch_perm {L : List Shp} {l : List Spt} {n : Nat} {o : Int} {f : Nat} {ds : List (DirT f)} (h0 : ds.length ≠ 0) (h : ∀ k, k < ds.length → okW L l n o f (ds.getD k (dirZ f)) (noT f ds k) (nxtS L k)) :
    (chW L l o f ds ds.length).Perm (linkP2 l o f ds 0 :: chQ L l o f ds ds.length) := by
  obtain ⟨m, hm⟩ : ∃ m, ds.length = m + 1 := ⟨ds.length - 1, by omega⟩; have e1 : chW L l o f ds ds.length = (List.range ds.length).flatMap fun k => dirW L l o f (ds.getD k (dirZ f)) (noT f ds k) (nxtS L k) ++ [linkP2 l o f ds k] := rfl
  have e2 : ((List.range ds.length).flatMap fun k => [linkP2 l o f ds k]) = (List.range ds.length).map (linkP2 l o f ds) := by
    induction (List.range ds.length) with
    | nil => rfl
    | cons a r ih => rw [List.flatMap_cons, ih]; rfl
  have e3 : ((List.range ds.length).flatMap (nextQ l o f ds)) = (List.range m).map fun k => linkP2 l o f ds (k + 1) := by
    have := range_next (linkP2 l o f ds) m; unfold nextQ; rw [hm]; exact this
  have e4 : (List.range ds.length).map (linkP2 l o f ds) = linkP2 l o f ds 0 :: (List.range m).map fun k => linkP2 l o f ds (k + 1) := by
    rw [hm, List.range_succ_eq_map, List.map_cons, List.map_map]; rfl
  rw [e1]; refine (flatMap_two _ _ _).trans ?_; rw [e2, e4]; refine List.perm_middle.trans (List.Perm.cons _ ?_); unfold chQ; refine List.Perm.trans ?_ (flatMap_two _ _ _).symm; have e5 : ((List.range ds.length).flatMap fun k => nextQ l o f ds k) = (List.range m).map fun k => linkP2 l o f ds (k + 1) := e3; rw [e5]; exact (flatMap_perm _ fun k hk => dir_perm f _ _ _ (h k (List.mem_range.1 hk))).append (List.Perm.refl _)
def signB (o : Int) : List Int := if o = 2 then [77, 77] else [73, 73]
/-- what the document writes of a tree -/
def treeQ (f : Nat) (o : Int) (ds : List (DirT f)) (L : List Shp) : List Pt := (0, signB o) :: (2, putS 42 2 o) :: (4, putS 8 4 o) :: chQ L (layT f ds) o f ds ds.length
end Go.Proofs.YtceclmpmpldmlaaGreat
