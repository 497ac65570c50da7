/- Chapter 22: bytes in which a directory stands are read as it, with all within it. Plain. -/
import Derived.Test.YtilennmeiaehnaaGreatCo38
namespace Go.Proofs.YtilennmeiaehnaaGreat
open Go.RowKit Tt
set_option linter.unusedVariables false
set_option linter.unusedSimpArgs false

theorem dirS_succ (z : List Int) (o : Int) (L : List Shp) (f : Nat) (p sh : Int) (s : St) : dirS z o L (f + 1) p sh s =
    match entriesS z o p s.no { s with no := IntKind.i64.wrap (s.no + 1) } with
    | .error e => .error e
    | .ok (l, s1) =>
      match loopS (stepT z o (L.getD sh.toNat shp0) s.no) l ([], s1) with
      | .error e => .error e
      | .ok (tags, s2) =>
        if (l.filter (fun x => !linkP (L.getD sh.toNat shp0) x.1 && pairP (L.getD sh.toNat shp0) x.1)).length = 1 then .error 6 else
        match loopS (stepD (dirS z o L f) (L.getD sh.toNat shp0)) l ([], s2) with
        | .error e => .error e
        | .ok (subs, s3) =>
          match blobS z (L.getD sh.toNat shp0) l s.no s3 with
          | .error e => .error e
          | .ok (blob, s4) => .ok (((tags, subs, blob), getV z (p + 2 + 12 * l.length) 4 o), s4) := rfl
theorem wrap_in {n : Int} (h0 : 0 ≤ n) (h1 : n < 9223372036854775807) : IntKind.i64.wrap n = n := by rw [IntKind.wrap_i64]; omega
/-- the entries of a directory, by what they are -/
theorem ents_kinds {L : List Shp} {l : List Spt} {o no : Int} {f : Nat} {d : DirT (f + 1)} {i : Int} (hf : HasF L f d i) {n : Nat} (hs : shapeB n i.toNat (L.getD i.toNat shp0) = true) :
    ((entsD f l o no (L.getD i.toNat shp0) d).filter (fun x => !ownP (L.getD i.toNat shp0) x.1) = d.1.map (entT l o no)) ∧
    ((entsD f l o no (L.getD i.toNat shp0) d).filter (fun x => linkP (L.getD i.toNat shp0) x.1) = subE f l d.2.1 no d.2.1.length) ∧
    ((entsD f l o no (L.getD i.toNat shp0) d).filter (fun x => !linkP (L.getD i.toNat shp0) x.1 && pairP (L.getD i.toNat shp0) x.1) = blobE l (L.getD i.toNat shp0) d.2.2 no) ∧
    (∀ x ∈ entsD f l o no (L.getD i.toNat shp0) d, ownP (L.getD i.toNat shp0) x.1 = true → x.2.1 = 4 ∧ x.2.2.1 = 1) := by
  generalize hsh : L.getD i.toNat shp0 = sh at *
  have hA : ∀ x ∈ d.1.map (entT l o no), ownP sh x.1 = false ∧ linkP sh x.1 = false ∧ pairP sh x.1 = false := fun x hx => by
    obtain ⟨t, ht, rfl⟩ := List.mem_map.1 hx
    have h := (hf.tg t ht).2.1
    rw [hsh] at h
    have h2 := h
    unfold ownP at h2
    simp only [Bool.or_eq_false_iff] at h2
    exact ⟨h, h2.1, h2.2⟩
  have hB : ∀ x ∈ subE f l d.2.1 no d.2.1.length, linkP sh x.1 = true ∧ ownP sh x.1 = true ∧ x.2.1 = 4 ∧ x.2.2.1 = 1 := fun x hx => by
    unfold subE at hx
    obtain ⟨j, hj, rfl⟩ := List.mem_map.1 hx
    have h := (hf.sb j (List.mem_range.1 hj)).1
    rw [hsh] at h
    have h2 : linkP sh (subX f l d.2.1 no j).1 = true := h
    exact ⟨h2, by unfold ownP; rw [h2]; rfl, rfl, rfl⟩
  have hC : ∀ x ∈ blobE l sh d.2.2 no, linkP sh x.1 = false ∧ pairP sh x.1 = true ∧ ownP sh x.1 = true ∧ x.2.1 = 4 ∧ x.2.2.1 = 1 := fun x hx => by
    unfold blobE at hx
    split at hx
    · rename_i hb
      have hp := pair_in hs (by have := hf.bl; rw [hsh] at this; rcases this with h | h; omega; exact h)
      have hlk : ∀ t, pairP sh t = true → linkP sh t = false := fun t ht => by
        cases hh : linkP sh t with
        | false => rfl
        | true => have := (link_pair hs hh).1; rw [ht] at this; cases this
      simp only [List.mem_cons, List.not_mem_nil, or_false] at hx
      rcases hx with rfl | rfl
      · exact ⟨hlk _ hp.1, hp.1, by unfold ownP; rw [hp.1]; simp, rfl, rfl⟩
      · exact ⟨hlk _ hp.2.1, hp.2.1, by unfold ownP; rw [hp.2.1]; simp, rfl, rfl⟩
    · cases hx
  have all_in : ∀ {p : Ent → Bool} {ys : List Ent}, (∀ x ∈ ys, p x = true) → ys.filter p = ys := fun h => List.filter_eq_self.2 h
  have all_out : ∀ {p : Ent → Bool} {ys : List Ent}, (∀ x ∈ ys, p x = false) → ys.filter p = [] := fun h => List.filter_eq_nil_iff.2 fun x hx => by rw [h x hx]; decide
  unfold entsD
  refine ⟨?_, ?_, ?_, ?_⟩
  · rw [List.filter_append, List.filter_append, all_in (fun x hx => by rw [(hA x hx).1]; rfl), all_out (fun x hx => by rw [(hB x hx).2.1]; rfl), all_out (fun x hx => by rw [(hC x hx).2.2.1]; rfl), List.append_nil, List.append_nil]
  · rw [List.filter_append, List.filter_append, all_out (fun x hx => (hA x hx).2.1), all_in (fun x hx => (hB x hx).1), all_out (fun x hx => (hC x hx).1), List.append_nil, List.nil_append]
  · rw [List.filter_append, List.filter_append, all_out (fun x hx => by rw [(hA x hx).2.2, Bool.and_false]), all_out (fun x hx => by rw [(hB x hx).1]; rfl), all_in (fun x hx => by rw [(hC x hx).1, (hC x hx).2.1]; rfl)]
    rfl
  · intro x hx ho
    rcases List.mem_append.1 hx with hx | hx
    · rcases List.mem_append.1 hx with hx | hx
      · rw [(hA x hx).1] at ho; cases ho
      · exact (hB x hx).2.2
    · exact (hC x hx).2.2.2
theorem ents_sorted {L : List Shp} {l : List Spt} {o no : Int} {f : Nat} {d : DirT (f + 1)} {i : Int} (hf : HasF L f d i) {n : Nat} (hs : shapeB n i.toNat (L.getD i.toNat shp0) = true) :
    ((d.1.map (entT l o no)).Pairwise fun x y => x.1 < y.1) ∧ ((subE f l d.2.1 no d.2.1.length).Pairwise fun x y => x.1 < y.1) ∧ ((blobE l (L.getD i.toNat shp0) d.2.2 no).Pairwise fun x y => x.1 < y.1) := by
  refine ⟨?_, ?_, ?_⟩
  · rw [List.pairwise_map]; exact hf.rt
  · have h : ((subE f l d.2.1 no d.2.1.length).map (·.1)).Pairwise (· < ·) := by
      rw [subE_fst, List.pairwise_map]; exact hf.rs
    rw [List.pairwise_map] at h
    exact h
  · unfold blobE
    split
    · rename_i hb
      have hp := pair_in hs (by rcases hf.bl with h | h; omega; exact h)
      refine List.Pairwise.cons (fun x hx => ?_) (List.Pairwise.cons (fun x hx => by cases hx) List.Pairwise.nil)
      obtain rfl : x = _ := by simpa using hx
      exact hp.2.2.2.1
    · exact List.Pairwise.nil
section
variable {l : List Spt} {z : List Int} {o : Int} (hk : (l.map keyS).Nodup) (hz : ∀ s ∈ l, s.2.2.2.1 + s.2.2.2.2 ≤ z.length) (ho : o = 1 ∨ o = 2)
include hk hz ho
omit hk hz ho in
/-- the directories within are read -/
theorem subs_back {L : List Shp} {f : Nat} {sh : Shp} {ss : List (Int × DirT f)} {no : Int} {l1 : List Spt} (hl : Lo l1) (h0 : 0 ≤ no)
    (hrec : ∀ j, j < ss.length → ∀ l0, Lo l0 → layS f (ss.getD j (0, dirZ f)).2 (subN f ss no j) l0 <+: l → dirS z o L f (atS l 2 (subN f ss no j) 0) (subI sh (ss.getD j (0, dirZ f)).1) ⟨l0, subN f ss no j, 0⟩ = .ok (((ss.getD j (0, dirZ f)).2, 0), ⟨layS f (ss.getD j (0, dirZ f)).2 (subN f ss no j) l0, subN f ss no (j + 1), 0⟩))
    (hp : (laySubs f ss (l1, no + 1)).1 <+: l) : ∀ j, j ≤ ss.length → loopS (stepS (dirS z o L f) sh) (subE f l ss no j) ([], ⟨l1, no + 1, 0⟩) = .ok (ss.take j, ⟨(laySubs f (ss.take j) (l1, no + 1)).1, subN f ss no j, 0⟩) := by
  intro j
  induction j with
  | zero => intro _; simp [subE, loopS, laySubs, subN, flats]
  | succ j ih =>
    intro hj
    have hj : j < ss.length := by omega
    have hi := ih (by omega)
    rw [subE_step, loop_app _ _ _ _ hi, loopS_cons]
    have hst := laySubs_step f ss (l1, no + 1) hj
    have hn : (laySubs f (ss.take j) (l1, no + 1)).2 = subN f ss no j := by rw [subs_no]; unfold subN; rfl
    rw [hn] at hst
    have hg : ss.getD j (0, dirZ f) = ss[j] := getD_el hj _
    have hr := hrec j hj _ (subs_lo f (ss.take j) (l1, no + 1) hl) (by
      have h1 : (laySubs f (ss.take (j + 1)) (l1, no + 1)).1 <+: l := (subs_take_pre f ss (l1, no + 1) (j + 1)).trans hp
      rw [hst] at h1
      rw [hg]
      exact h1)
    have hs : stepS (dirS z o L f) sh (ss.take j, ⟨(laySubs f (ss.take j) (l1, no + 1)).1, subN f ss no j, 0⟩) (subX f l ss no j) = .ok (ss.take (j + 1), ⟨(laySubs f (ss.take (j + 1)) (l1, no + 1)).1, subN f ss no (j + 1), 0⟩) := by
      unfold stepS subX
      simp only
      rw [hr]
      simp only
      rw [if_pos trivial, hst, List.take_add_one, List.getElem?_eq_getElem hj, Option.toList_some, hg]
    rw [hs]
    rfl
theorem dirS_back {L : List Shp} (hL : shapesB L = true) {N : Nat} : ∀ (f : Nat) (d : DirT f) (no i nx : Int) (l0 : List Spt), 0 ≤ i → i < L.length → hasS L f d i = true → bytD f d → okW L l N o f d no i → BackD z L l o f d no i nx → Lo l0 → layS f d no l0 <+: l → 0 ≤ no → no + (flatS f d).length < 9223372036854775807 →
    dirS z o L f (atS l 2 no 0) i ⟨l0, no, 0⟩ = .ok ((d, nx), ⟨layS f d no l0, no + (flatS f d).length, 0⟩)
  | 0, _, _, _, _, _, _, _, hh, _, _, _, _, _, _, _ => absurd hh (by simp [hasS])
  | f + 1, d, no, i, nx, l0, hi0, hi1, hh, hby, hw, hbk, hl, hp, hn0, hn1 => by
    have hf := hasF_iff.1 hh
    have hs := shapesB_get hL (i := i.toNat) (by omega)
    obtain ⟨k1, k2, k3, k4, k5, k6, k7, k8, k9⟩ := okW_succ hw
    obtain ⟨hS, hnx, hsub⟩ := hbk
    have hel := entsD_len f l o no (L.getD i.toNat shp0) d
    have hfl : (flatS (f + 1) d).length = (flats f d.2.1).length + 1 := by rw [flatS_succ]; rfl
    obtain ⟨e1, e2, e3, e4⟩ := ents_kinds (l := l) (o := o) (no := no) hf hs
    obtain ⟨s1, s2, s3⟩ := ents_sorted (l := l) (o := o) (no := no) hf hs
    rw [putP_eq] at hS
    have hSH : Std z (headQ l o no (entsD f l o no (L.getD i.toNat shp0) d)) := fun p hp => hS p (List.mem_append.2 (.inr hp))
    have hSV : Std z (d.1.flatMap (patV l o no)) := fun p hp => hS p (List.mem_append.2 (.inl (List.mem_append.2 (.inl hp))))
    have hSB : Std z (blobP l d.2.2 no) := fun p hp => hS p (List.mem_append.2 (.inl (List.mem_append.2 (.inr hp))))
    rw [layS_succ] at hp ⊢
    -- the steps of what is laid
    obtain ⟨la, hla⟩ : ∃ x, addS l0 2 no 0 (6 + 12 * (entN d.1.length d.2.1.length d.2.2.length : Nat)) = x := ⟨_, rfl⟩
    obtain ⟨lb, hlb⟩ : ∃ x, valsS no d.1 la = x := ⟨_, rfl⟩
    have hfold : d.2.1.foldl (fun (r : List Spt × Int) s => (layS f s.2 r.2 r.1, r.2 + (flatS f s.2).length)) (lb, no + 1) = laySubs f d.2.1 (lb, no + 1) := rfl
    simp only [hla, hlb, hfold] at hp ⊢
    obtain ⟨lc, hlc⟩ : ∃ x, (laySubs f d.2.1 (lb, no + 1)).1 = x := ⟨_, rfl⟩
    rw [hlc] at hp ⊢
    have hpc : lc <+: l := by
      split at hp
      · exact (add_pre ..).trans hp
      · exact hp
    have hpb : lb <+: l := by rw [← hlc] at hpc; exact (subs_pre f d.2.1 (lb, no + 1)).trans hpc
    have hpa : la <+: l := by rw [← hlb] at hpb; exact (vals_pre no d.1 la).trans hpb
    have hLa : Lo la := by rw [← hla]; exact hl.add (by omega)
    have hLb : Lo lb := by rw [← hlb]; exact hLa.vals d.1 no
    have hLc : Lo lc := by rw [← hlc]; exact subs_lo f d.2.1 (lb, no + 1) hLb
    have hat := add_at hk (l0 := l0) (a := 2) (b := no) (c := 0) (e := 6 + 12 * (entN d.1.length d.2.1.length d.2.2.length : Nat)) (by rw [hla]; exact hpa)
    have hatz := hz _ hat.1
    simp only at hatz
    have hev := evenS_le hl.1
    have hq0 : 0 ≤ atS l 2 no 0 := by rw [hat.2]; have := hl.1; omega
    have hcnt : getV z (atS l 2 no 0) 2 o = (entN d.1.length d.2.1.length d.2.2.length : Nat) := by
      have h := hSH ((atS l 2 no 0).toNat, putS ((entsD f l o no (L.getD i.toNat shp0) d).length : Nat) 2 o) (by unfold headQ; exact List.mem_cons_self ..)
      have hpk : putOk ((entsD f l o no (L.getD i.toNat shp0) d).length : Nat) 2 o = true := (putOk_iff ho).2 (by rw [show topS 2 = 65536 by decide]; omega)
      rw [hel] at h hpk
      have hl2 : (putS ((entN d.1.length d.2.1.length d.2.2.length : Nat) : Int) 2 o).length = 2 := putS_len2 hpk
      simp only [hl2] at h
      exact getV_put (by decide) ho hq0 (by omega) hpk h.2
    have hents : entsS z o (atS l 2 no 0) (entN d.1.length d.2.1.length d.2.2.length) = sortE (entsD f l o no (L.getD i.toNat shp0) d) := by
      rw [← hel]; exact ents_back ho hq0 k8 k9 hSH
    have hE : entriesS z o (atS l 2 no 0) no ⟨l0, IntKind.i64.wrap (no + 1), 0⟩ = .ok (sortE (entsD f l o no (L.getD i.toNat shp0) d), ⟨la, no + 1, 0⟩) := by
      unfold entriesS
      have hc : (decide (atS l 2 no 0 % 2 = 0) && roomB (atS l 2 no 0) 2 z.length) = true := by
        unfold roomB
        simp only [Bool.and_eq_true, decide_eq_true_eq]
        refine ⟨by rw [hat.2]; unfold evenS; omega, ⟨⟨by omega, by decide⟩, by omega⟩, by omega⟩
      rw [if_pos hc, hcnt, if_pos (by have := hf.e1; omega), take_at hk hz hl (by omega) (by rw [hla]; exact hpa), Int.toNat_natCast, hents]
      simp only
      rw [if_pos (rises_of (sortE_lt k8)), hla, wrap_in (by omega) (by omega)]
    have hT : loopS (stepT z o (L.getD i.toNat shp0) no) (sortE (entsD f l o no (L.getD i.toNat shp0) d)) ([], ⟨la, no + 1, 0⟩) = .ok (d.1, ⟨lb, no + 1, 0⟩) := by
      rw [stepT_filter _ _ (fun x hx => e4 x ((sortE_perm _).subset hx)), sort_filter k8 e1 s1, vals_back hk hz ho d.1 [] la (fun x hx => ⟨(hf.tg x hx).1, (hf.tg x hx).2.2⟩) hby.1 hSV hLa (by rw [hlb]; exact hpb), hlb]
      rfl
    have hD : loopS (stepD (dirS z o L f) (L.getD i.toNat shp0)) (sortE (entsD f l o no (L.getD i.toNat shp0) d)) ([], ⟨lb, no + 1, 0⟩) = .ok (d.2.1, ⟨lc, no + (flatS (f + 1) d).length, 0⟩) := by
      rw [stepD_filter, sort_filter k8 e2 s2]
      have hr := subs_back (o := o) (z := z) (l := l) (L := L) (sh := L.getD i.toNat shp0) (ss := d.2.1) (no := no) hLb hn0 (fun j hj l2 hl2 hp2 => by
        have hsi := subI_ok hL (i := i.toNat) (by omega) (k2 j hj).1
        have hsN := subN_step f d.2.1 no hj
        have h1 := subN_le f d.2.1 no j
        have h2 := subN_le f d.2.1 no (j + 1)
        have := dirS_back hL f _ (subN f d.2.1 no j) (subI (L.getD i.toNat shp0) (d.2.1.getD j (0, dirZ f)).1) 0 l2 (by omega) (by omega) (hf.sb j hj).2 (hby.2.1 _ (by rw [getD_el hj]; exact List.getElem_mem hj)) (k2 j hj).2 (hsub j hj) hl2 hp2 (by omega) (by omega)
        rw [← hsN] at this
        exact this) (by rw [hlc]; exact hpc) d.2.1.length (Nat.le_refl _)
      rw [List.take_of_length_le (Nat.le_refl _), subN_all, hlc] at hr
      rw [hr]
      congr 3
      omega
    have hlenE : (sortE (entsD f l o no (L.getD i.toNat shp0) d)).length = entN d.1.length d.2.1.length d.2.2.length := by rw [sortE_len, hel]
    have hflt := sort_filter k8 e3 s3
    have hB : blobS z (L.getD i.toNat shp0) (sortE (entsD f l o no (L.getD i.toNat shp0) d)) no ⟨lc, no + (flatS (f + 1) d).length, 0⟩ = .ok (d.2.2, ⟨if 0 < d.2.2.length then addS lc 4 no 0 (d.2.2.length : Nat) else lc, no + (flatS (f + 1) d).length, 0⟩) := by
      unfold blobS
      rw [hflt]
      unfold blobE
      by_cases hb : 0 < d.2.2.length
      · rw [if_pos hb] at hp ⊢
        have hst := hSB ((atS l 4 no 0).toNat, d.2.2) (by unfold blobP; rw [if_pos hb]; exact List.mem_cons_self ..)
        simp only
        rw [if_pos (by omega), take_at hk hz hLc (by omega) hp]
        simp only
        rw [Int.toNat_natCast, hst.2, if_pos hb]
      · rw [if_neg hb] at hp ⊢
        have : d.2.2 = [] := List.length_eq_zero_iff.1 (by omega)
        simp only
        rw [if_neg hb, this]
    have hone : ¬ ((sortE (entsD f l o no (L.getD i.toNat shp0) d)).filter (fun x => !linkP (L.getD i.toNat shp0) x.1 && pairP (L.getD i.toNat shp0) x.1)).length = 1 := by
      rw [hflt]
      unfold blobE
      split <;> simp
    rw [dirS_succ]
    dsimp only
    rw [hE]
    simp only
    rw [hT]
    simp only
    rw [if_neg hone, hD]
    simp only
    rw [hB]
    simp only
    rw [hlenE, hnx]
    rfl
end
end Go.Proofs.YtilennmeiaehnaaGreat
